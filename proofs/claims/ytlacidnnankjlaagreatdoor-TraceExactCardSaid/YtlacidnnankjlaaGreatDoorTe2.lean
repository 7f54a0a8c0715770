/-
  Texts of the claim: LoopW Join GMore Ether Span SpanM ReasmA ReasmB ReasmC ReasmD ReasmE ReasmF ReasmG ReasmP EtherP Shelf PackW PackT Plain TextR TextP MqDef Strs MqRead RdW RdP RdR MqMem RdV MqOps WillQ Off IpN SegN TrSeg AppF.
-/
import Derived.Lib.MinMax
import Derived.WalkLawsBesides
import Derived.Shelf.Small.Utf8
import Derived.Shelf.Small.Strs
import Derived.Shelf.Strings.Search1
import Derived.Shelf.Strings.Search2
import Derived.Shelf.Strings.Search3
import Derived.Shelf.LaysM
import Derived.Shelf.Strings.Shaped
import Derived.Shelf.Strings.Runes
import Derived.Shelf.Strings.IndexAny
import Derived.Shelf.Strings.AsciiSet
import Derived.Shelf.Strings.IndexAnyAll
import Derived.Shelf.Unicode.ValidAny
import Derived.Test.YtlacidnnankjlaaGreatDoorProg
import Derived.Lib.AppendStr
import Derived.Lib.ValidU
import Derived.Laws.RangeAny
import Derived.Lib.OthersKept
import Derived.Laws.Runes
import Derived.Deep.LoopGhost
import Derived.Deep.QuietTactic
import Derived.BigQuiet
import Derived.OwnWalk
import Derived.RegionTactic
import Derived.BigRegion
import Derived.Laws.IdiomStrings
import Derived.Lib.BufferRead
import Derived.Test.YtlacidnnankjlaaGreatDoorTe1
namespace Go.Proofs.YtlacidnnankjlaaGreatDoor
set_option maxRecDepth 100000
set_option maxHeartbeats 25600000
section
open Go.RowKit
section
variable {P:Program}{Q:Exit→Act→World→Prop}{a:Act}{w:World}
theorem Q7 {c:Code}(N:Nat) (J:Nat→Act→World→Prop) (h0:J 0 a w) (round:∀k a w,k≤N→J k a w→c.wp P (Exit.then (fun a' w'=>k<N∧J (k+1) a' w') Q) a w):(Code.loop c).wp P Q a w:=by
 have key:∀n k a w,N-k=n→k≤N→J k a w→Code.rounds P c Q (n+1) a w:=by
  intro n
  induction n with
  |zero=>
   intro k a w hn hk hJ;rw[rounds_succ];refine wp_mono (round k a w hk hJ) ?_;intro e a' w' he;cases e with
   |normal=>exact absurd he.1 (by omega)
   |_=>exact he
  |succ n ih=>
   intro k a w hn hk hJ;rw[rounds_succ];refine wp_mono (round k a w hk hJ) ?_;intro e a' w' he;cases e with
   |normal=>exact ih (k+1) a' w' (by omega) he.1 he.2
   |_=>exact he
 exact wp_loop_rounds (N+1) (key N 0 a w (by omega) (Nat.zero_le _) h0)
theorem J7 {next:Act→World→Prop}{id:Nat}(h:Q (.exit id) a w):Exit.then next Q (.exit id) a w:=h
theorem X3 {id:Nat}(h:Q .normal a w):Exit.inBlock id Q (.exit id) a w:=by
 simp only[Exit.inBlock,if_true];exact h
theorem X5j {id id':Nat}(hne:Nat.beq id' id=false) (h:Q (.exit id') a w):Exit.inBlock id Q (.exit id') a w:=by
 have hn:id'≠id:=by intro e;subst e;rw[Nat.beq_refl] at hne;cases hne
 simp only[Exit.inBlock,hn,if_false];exact h
end
theorem Q7b (k:Int) (_h0:0≤k) (_h1:k≤65535) (x y:Operand) (w:World):(do eqGuard .shr 3 x y (iz k) (.int .u64 8);binOp .shr 3 (iz k) (.int .u64 8):Sem Value).run Tryz.prog w = .ok (iz (k/256)) w:=by
 simp[go_sem]
theorem Q3 (u v:Int) (b:Bool) (h:decide (u<v)=b) (x y:Operand) (w:World):(do eqGuard .lss 3 x y (iz u) (iz v);binOp .lss 3 (iz u) (iz v):Sem Value).run Tryz.prog w = .ok (.bool b) w:=by
 subst h;simp[go_sem]
theorem S0 (u v:Int) (b:Bool) (h:decide (v<u)=b) (x y:Operand) (w:World):(do eqGuard .gtr 3 x y (iz u) (iz v);binOp .gtr 3 (iz u) (iz v):Sem Value).run Tryz.prog w = .ok (.bool b) w:=by
 subst h;simp[go_sem]
theorem Z6k (u v:Int) (b:Bool) (h:decide (v≤u)=b) (x y:Operand) (w:World):(do eqGuard .geq 3 x y (iz u) (iz v);binOp .geq 3 (iz u) (iz v):Sem Value).run Tryz.prog w = .ok (.bool b) w:=by
 subst h;simp[go_sem]
theorem E7 (k:Nat) (h:k<9223372036854775807) (x y:Operand) (w:World):(do eqGuard .add 3 x y (iz k) (iz 1);binOp .add 3 (iz k) (iz 1):Sem Value).run Tryz.prog w = .ok (iz ((k+1:Nat):Int)) w:=by
 simp[go_sem];exact IntWalk.i64_in _ (by omega)
theorem U7 (T:TypeId) (hT:Tryz.prog.underlying T=some (.slice (Tryz.prog.elem T))) (hs:∀w,(sizeOf (Tryz.prog.elem T)).run Tryz.prog w = .ok 1 w) (b o n c k:Nat) (hk:k<n) (w:World):(Instr.indexAt T (.slice (some ⟨b,o,none⟩) n c) (iz k)).run Tryz.prog w = .ok (.pointer (some ⟨b,o+k,none⟩)) w:=by
 rw[run_indexAt_slice (h:=hT),if_pos ⟨by omega,by omega⟩,hs];have e:(Addr.mk b o none).add ((k:Int).toNat*1)=⟨b,o+k,none⟩:=by
  rw[Int.toNat_natCast,Nat.mul_one];unfold Addr.add;by_cases h:k=0<;>simp[h]
 rw[Result.andThen_ok,e]
theorem Y9x (T:TypeId) (hT:Tryz.prog.underlying T=some (.slice (Tryz.prog.elem T))) (hs:∀w,(sizeOf (Tryz.prog.elem T)).run Tryz.prog w = .ok 2 w) (b o n c k:Nat) (hk:k<n) (w:World):(Instr.indexAt T (.slice (some ⟨b,o,none⟩) n c) (iz k)).run Tryz.prog w = .ok (.pointer (some ⟨b,o+k*2,none⟩)) w:=by
 rw[run_indexAt_slice (h:=hT),if_pos ⟨by omega,by omega⟩,hs];have e:(Addr.mk b o none).add ((k:Int).toNat*2)=⟨b,o+k*2,none⟩:=by
  rw[Int.toNat_natCast];unfold Addr.add;by_cases h:k=0
  ·simp[h]
  ·rw[if_neg (by omega)]
 rw[Result.andThen_ok,e]
section
variable {P:Program}{ops:Array Oper}{rest:List Oper}{o:Oper}{a:Act}{w:World}{Q:Exit→Act→World→Prop}{n:Nat}{l:List (Nat×Value)}
theorem Z9.index (H:Z9 a n l) (hw:Region.wanted o (yielded ops a.tmps)=true) {T d:Nat}{x i:Operand}{u v r:Value}(ho:o.op = .indexAddr T x i) (hd:o.dst=some d) (hn:Nat.blt d n=true) (hx:W1 l x=some u) (hi:W1 l i=some v)
  (hq:(Instr.indexAt T u v).run P w = .ok r w) (h:∀a',Z9 a' n ((d,r)::l)→wpList P ops Q rest a' w):wpList P ops Q (o::rest) a w:=by
 refine H.go hw hd hn _ ?_ h;unfold execOp;simp only[ho,H.ev hx,H.ev hi,Sem.run_bind,hq,Result.andThen_ok,Sem.run_pure]
theorem Z9.len (H:Z9 a n l) (hw:Region.wanted o (yielded ops a.tmps)=true) {d:Nat}{s:Operand}{t:TypeId}{A:Option Addr}{m c:Nat}(ho:o.op = .call { callee:=.builtin .len,args:=#[s],argTypes:=#[t] }) (hd:o.dst=some d) (hn:Nat.blt d n=true) (hs:W1 l s=some (.slice A m c)) {e:TypeId}(ht:P.underlying t=some (.slice e))
  (h:∀a',Z9 a' n ((d,iz m)::l)→wpList P ops Q rest a' w):wpList P ops Q (o::rest) a w:=
 H.go hw hd hn _ (X8b ho (H.ev hs) ht) h
theorem Z9.bytes (H:Z9 a n l) (hw:Region.wanted o (yielded ops a.tmps)=true) {d k:Nat}(hd:o.dst=some d) (hn:Nat.blt d n=true) (xs:List UInt8) (vs:List Value) (hxs:vs=xs.map bv) (hk:xs.length=k) (e:TypeId) (hs:∀cs b,o.op ≠ .select cs b) (hops:o.op.operands.all (fun x=>(W1 l x).isSome)=true)
  (hrun:(execOp (fun x=>(W1 l x).getD undef) o).run P w = .ok (.value (.slice (some ⟨w.heap.size,0,none⟩) k k)) (w.alloc (.cells vs.toArray e)))
  (h:∀a' v w',Z9 a' n ((d,v)::l)→K0 xs v w'→Below w.heap.size w w'→wpList P ops Q rest a' w'):wpList P ops Q (o::rest) a w:=by
 obtain⟨h1,h2⟩:=Z3o w xs vs hxs e k hk;exact H.go hw hd hn _ (Z0f H hs hops hrun) (fun a' H'=>h a' _ _ H' h1 h2)
theorem Z9.appendRow (H:Z9 a n l) (hgb:P.underlying 31=some (.slice 5)) (hi:(P.info? 5).map (fun i=>(i.zero,i.size,i.bytes))=some (some (.int .u8 0),1,1)) (hw:Region.wanted o (yielded ops a.tmps)=true) {d:Nat}{s x:Operand}
  (ho:o.op = .call { callee:=.builtin .append,args:=#[s,x],argTypes:=#[31,31] }) (hd:o.dst=some d) (hn:Nat.blt d n=true) {b:Nat}{xs ys:List UInt8}{v u:Value}(hs:W1 l s=some v) (hx:W1 l x=some u) (hv:Y2 b xs v w) (hu:K0 ys u w)
  (hl:xs.length+ys.length≤140737488355328) (hb:b≤w.heap.size) (h:∀a' v' w',Z9 a' n ((d,v')::l)→Y2 b (xs++ys) v' w'→Below b w w'→w.grownBy w' v.ownBlock→wpList P ops Q rest a' w'):wpList P ops Q (o::rest) a w:=by
 obtain⟨v',w',hrun,h1,h2,h3⟩:=Z1g (P:=P) (a:=a) (w:=w) hgb hi (o:=o) ho (H.ev hs) (H.ev hx) hv hu hl hb;exact H.go hw hd hn v' hrun (fun a' H'=>h a' v' w' H' h1 h2 h3)
end
section
variable {P:Program}{o:Oper}{a:Act}{w:World}
end
end
section
open Go.RowKit
section
variable {P:Program}{ops:Array Oper}{Q:Exit→Act→World→Prop}
theorem J0a {o:Oper}{a:Act}{K:Act→World→Prop}{St:Act→World→Prop}{r:Result Next}(h:o.upon P a K (Exit.then St Q) r):o.upon P a K Q r:=by
 cases r with
 |ok n w'=>
  cases n with
  |enter f args=>
   refine Calls.mono h ?_;intro e w'' he;cases e with
   |returned v=>exact he
   |panicked c=>exact he
   |outgrown=>exact he
  |_=>exact h
 |halt x w'=>
  cases x<;>exact h
theorem Z8u {St:Act→World→Prop}(h2:List Oper) (h:∀a w,St a w→wpList P ops Q h2 a w):∀(l:List Oper) (a:Act) (w:World),wpList P ops (Exit.then St Q) l a w→wpList P ops Q (l++h2) a w
 |[],a,w,hl=>h a w hl
 |o::l,a,w,hl=>by
  rw[List.cons_append];unfold wpList at hl ⊢
  split at hl
  ·next hw=>
   rw[if_pos hw];rcases hl with hl |⟨h1,h3⟩
   ·left
    exact J0a (Oper.wp_mono (fun a w hh=>Z8u h2 h l a w hh) hl)
   ·exact .inr ⟨h1,h3⟩
  ·next hw=>
   rw[if_neg hw];exact Z8u h2 h l _ _ hl
theorem V8 {l:List Oper}{a:Act}{w:World}(k:Nat) (St:Act→World→Prop) (h1:wpList P ops (Exit.then St Q) (l.take k) a w) (h2:∀a w,St a w→wpList P ops Q (l.drop k) a w):wpList P ops Q l a w:=by
 rw[←List.take_append_drop k l];exact Z8u _ h2 _ _ _ h1
end
theorem X8f (u v:Int) (b:Bool) (h:decide (u≤v)=b) (x y:Operand) (w:World):(do eqGuard .leq 3 x y (iz u) (iz v);binOp .leq 3 (iz u) (iz v):Sem Value).run Tryz.prog w = .ok (.bool b) w:=by
 subst h;simp[go_sem]
theorem Z3e {P:Program}{a:Act}{w:World}{Q:Exit→Act→World→Prop}{c r0:Code}{k:Nat}(hf:findLabel c k=some (.seq .skip r0)) (J:Act→World→Prop) (μ:Act→World→Nat) (first:(∀a w,J a w→r0.wp P (Exit.jump k J Q) a w)→c.wp P (Exit.jump k J Q) a w)
  (pass:∀a w,J a w→r0.wp P (Exit.jump k (fun a' w'=>J a' w'∧μ a' w'<μ a w) Q) a w):(Code.scope c).wp P Q a w:=by
 refine wp_scope_jumps k J μ hf (first fun a w h=>wp_mono (pass a w h) ?_) fun a w h=>wp_seq (wp_skip (Z0 (pass a w h)));intro e a' w' he;cases e with
 |goto l=>exact⟨he.1,he.2.1⟩
 |_=>exact he
theorem Z2d {Q:Exit→Act→World→Prop}{a:Act}{w:World}{k:Nat}{J:Act→World→Prop}(h:Q .ret a w):Exit.jump k J Q .ret a w:=h
theorem N4 {Q:Exit→Act→World→Prop}{a:Act}{w:World}{k:Nat}{J:Act→World→Prop}(h:J a w):Exit.jump k J Q (.goto k) a w:=⟨rfl,h⟩
def Exit.two (J0 J1:Act→World→Prop) (Q:Exit→Act→World→Prop):Exit→Act→World→Prop
 | .goto l,a,w=>(l=0∧J0 a w)∨(l=1∧J1 a w)
 |e,a,w=>Q e a w
section
variable {P:Program}{a:Act}{w:World}{Q:Exit→Act→World→Prop}{J0 J1:Act→World→Prop}
theorem Z4r (h:Q .ret a w):Exit.two J0 J1 Q .ret a w:=h
theorem J0b (h:J0 a w):Exit.two J0 J1 Q (.goto 0) a w:=.inl ⟨rfl,h⟩
theorem Y7x (h:J1 a w):Exit.two J0 J1 Q (.goto 1) a w:=.inr ⟨rfl,h⟩
theorem G9 {next:Act→World→Prop}{l:Nat}(h:Q (.goto l) a w):Exit.then next Q (.goto l) a w:=h
theorem Y5h {l:Nat}(h:Q .normal a w):(Code.label l).wp P Q a w:=wp_label h
theorem Y9y {c r0 r1:Code}(hf0:findLabel c 0=some (.seq .skip r0)) (hf1:findLabel c 1=some (.seq .skip r1)) (N:Nat) (J:Nat→Act→World→Prop) (J1:Act→World→Prop)
  (first:(∀k a w,k≤N→J k a w→r0.wp P (Exit.two (fun a w=>∃k,k≤N∧J k a w) J1 Q) a w)→c.wp P (Exit.two (fun a w=>∃k,k≤N∧J k a w) J1 Q) a w)
  (pass:∀k a w,k≤N→J k a w→r0.wp P (Exit.two (fun a w=>k<N∧J (k+1) a w) J1 Q) a w)
  (last:∀a w,J1 a w→r1.wp P (Exit.two (fun _ _=>False) (fun _ _=>False) Q) a w):(Code.scope c).wp P Q a w:=by
 have hp0:=pass;have pass:∀k a w,k≤N→J k a w→(Code.seq .skip r0).wp P (Exit.two (fun a w=>k<N∧J (k+1) a w) J1 Q) a w:=fun k a w hk hJ=>wp_seq (wp_skip (Z0 (pass k a w hk hJ)));have last:∀a w,J1 a w→(Code.seq .skip r1).wp P (Exit.two (fun _ _=>False) (fun _ _=>False) Q) a w:=fun a w hJ=>wp_seq (wp_skip (Z0 (last a w hJ)));intro b k cs;have hg0:gotoIn 0 (.inScope c::k)=some (.code (.seq .skip r0) :: .inScope c::k):=by simp[gotoIn,hf0]
 have hg1:gotoIn 1 (.inScope c::k)=some (.code (.seq .skip r1) :: .inScope c::k):=by simp[gotoIn,hf1]
 have key1:∀a w,J1 a w→∃e a' w',Q e a' w'∧Arrives P (lone (b.at a (.code (.seq .skip r1) :: .inScope c::k)) cs w) b k cs e a' w':=by
  intro a w hJ;obtain⟨e,a₁,w₁,hq,harr⟩:=last a w hJ b (.inScope c::k) cs;cases e with
  |normal=>exact⟨.normal,a₁,w₁,hq,Steps.trans harr (.one step_inScope)⟩
  |exit id=>exact⟨.exit id,a₁,w₁,hq,fun k' hk=>harr k' (by simp[exitTo,hk])⟩
  |goto l'=>rcases hq with⟨_,h⟩ |⟨_,h⟩<;>exact h.elim
  |ret=>exact⟨_,a₁,w₁,hq,harr⟩
  |panic ch=>exact⟨_,a₁,w₁,hq,harr⟩
  |outgrown=>exact⟨_,a₁,w₁,hq,harr⟩
 have key0:∀n i a w,N-i=n→i≤N→J i a w→∃e a' w',Q e a' w'∧Arrives P (lone (b.at a (.code (.seq .skip r0) :: .inScope c::k)) cs w) b k cs e a' w':=by
  intro n
  induction n using Nat.strongRecOn with
  |_ n ih=>
   intro i a w hn hi hJ;obtain⟨e,a₁,w₁,hq,harr⟩:=pass i a w hi hJ b (.inScope c::k) cs;cases e with
   |normal=>exact⟨.normal,a₁,w₁,hq,Steps.trans harr (.one step_inScope)⟩
   |exit id=>exact⟨.exit id,a₁,w₁,hq,fun k' hk=>harr k' (by simp[exitTo,hk])⟩
   |goto l'=>
    rcases hq with⟨rfl,hlt,hJ'⟩ |⟨rfl,hJ'⟩
    ·obtain⟨e₂,a₂,w₂,hq₂,harr₂⟩:=ih (N-(i+1)) (by omega) (i+1) a₁ w₁ rfl (by omega) hJ'
     exact⟨e₂,a₂,w₂,hq₂, .of_steps (harr _ hg0) harr₂⟩
    ·obtain⟨e₂,a₂,w₂,hq₂,harr₂⟩:=key1 a₁ w₁ hJ'
     exact⟨e₂,a₂,w₂,hq₂, .of_steps (harr _ hg1) harr₂⟩
   |ret=>exact⟨_,a₁,w₁,hq,harr⟩
   |panic ch=>exact⟨_,a₁,w₁,hq,harr⟩
   |outgrown=>exact⟨_,a₁,w₁,hq,harr⟩
 have hp:∀k a w,k≤N→J k a w→r0.wp P (Exit.two (fun a w=>∃k,k≤N∧J k a w) J1 Q) a w:=fun i a w hi hJ=>wp_mono (hp0 i a w hi hJ) (by
  intro e a w h;cases e with
  |goto l=>
   rcases h with⟨e,h1,h2⟩ |h
   ·exact .inl ⟨e,i+1,h1,h2⟩
   ·exact .inr h
  |_=>exact h)
 obtain⟨e,a₁,w₁,hq,harr⟩:=first hp b (.inScope c::k) cs
 cases e with
 |normal=>exact⟨.normal,a₁,w₁,hq, .head step_scope (Steps.trans harr (.one step_inScope))⟩
 |exit id=>exact⟨.exit id,a₁,w₁,hq,fun k' hk=>.head step_scope (harr k' (by simp[exitTo,hk]))⟩
 |goto l'=>
  rcases hq with⟨rfl,i,hi,hJ'⟩ |⟨rfl,hJ'⟩
  ·obtain⟨e₂,a₂,w₂,hq₂,harr₂⟩:=key0 _ i a₁ w₁ rfl hi hJ'
   exact⟨e₂,a₂,w₂,hq₂, .of_steps (.head step_scope (harr _ hg0)) harr₂⟩
  ·obtain⟨e₂,a₂,w₂,hq₂,harr₂⟩:=key1 a₁ w₁ hJ'
   exact⟨e₂,a₂,w₂,hq₂, .of_steps (.head step_scope (harr _ hg1)) harr₂⟩
 |ret=>exact⟨_,a₁,w₁,hq, .of_steps (.one step_scope) harr⟩
 |panic ch=>exact⟨_,a₁,w₁,hq, .of_steps (.one step_scope) harr⟩
 |outgrown=>exact⟨_,a₁,w₁,hq, .of_steps (.one step_scope) harr⟩
end
end
section
open Go.RowKit
theorem Y2.read {b:Nat}{xs:List UInt8}{v:Value}{w:World}(h:Y2 b xs v w):K0 xs v w:=by
 obtain⟨A,c,rfl,ho⟩:=h;exact⟨A,c,rfl,RB.of_ownN ho⟩
theorem V9 {P:Program}{fn:Func}{p q:Tmp}(h:fn.results = #[.tmp p, .tmp q]) (tmps:Array Value) (u v:Value) {w:World}(hp:tmps.getD p undef=u) (hq:tmps.getD q undef=v):(results fn tmps).run P w = .ok (.tuple #[u,v]) w:=by
 have hp':tmps[p]?.getD undef=u:=by simpa using hp
 have hq':tmps[q]?.getD undef=v:=by simpa using hq
 simp[results,h,hp',hq']
theorem U5 {P:Program}{fn:Func}{p q r:Tmp}(h:fn.results = #[.tmp p, .tmp q, .tmp r]) (tmps:Array Value) (u v x:Value) {w:World}(hp:tmps.getD p undef=u) (hq:tmps.getD q undef=v) (hr:tmps.getD r undef=x):(results fn tmps).run P w = .ok (.tuple #[u,v,x]) w:=by
 have hp':tmps[p]?.getD undef=u:=by simpa using hp
 have hq':tmps[q]?.getD undef=v:=by simpa using hq
 have hr':tmps[r]?.getD undef=x:=by simpa using hr
 simp[results,h,hp',hq',hr']
def Z3z (w:World) (g T:Nat):Prop:=∃l fr,w.heap[g]? = some (.cells l T fr)
theorem Z3z.set {w:World}{g T:Nat}(h:Z3z w g T) (a:Addr) (v:Value):Z3z (w.setCell a v) g T:=by
 obtain⟨l,fr,h⟩:=h;unfold World.setCell Z3z;simp only[Array.getElem?_modify,h]
 split
 ·exact⟨_,_,rfl⟩
 ·exact⟨_,_,rfl⟩
theorem Z3z.sets {g T:Nat}(g':Nat):∀(vs:List Value) (o:Nat) {w:World},Z3z w g T→Z3z (w.setCells g' o vs) g T
 |[],_,_,h=>h
 |v::vs,o,_,h=>Z3z.sets g' vs (o+1) (h.set ⟨g',o,none⟩ v)
theorem Z3z.grown {w w':World}{g T:Nat}{r:Option Nat}(h:Z3z w g T) (hg:w.grownBy w' r) (hne:some g≠r):Z3z w' g T:=by
 obtain⟨l,fr,h⟩:=h;exact⟨l,fr,(hg.block g (Array.getElem?_eq_some_iff.1 h).1 hne).trans h⟩
theorem Z3z.below {w w':World}{g T:Nat}(h:Z3z w g T) (hb:Below w.heap.size w w'):Z3z w' g T:=h.grown (X2 hb none) (by simp)
theorem Z3z.far {w:World}{g T b e s n:Nat}{v:Value}{xs:List Value}(h:Z3z w g T) (hO:w.ownsRow b e s v n xs) (he:Nat.beq e T=false):some g≠v.ownBlock:=by
 obtain⟨l,fr,h⟩:=h;rcases hO.2 with⟨rfl,_⟩ |⟨g1,c1,cur1,rfl,_,hg1,_⟩
 ·intro h;cases h
 ·intro h2
  have h2:g=g1:=by injection h2
  subst h2;rw[h] at hg1;injection hg1 with hg1
  injection hg1 with _ hg1 _
  subst hg1;rw[Nat.beq_refl] at he;cases he
def X5k (base T:Nat) (L:List Value) (v:Value) (w:World):Prop:=∃g,v=pz g∧base≤g∧g<w.heap.size∧X5 w g L∧Z3z w g T
theorem X5k.below {base T:Nat}{L:List Value}{v:Value}{w w':World}(hb:Below w.heap.size w w') (h:X5k base T L v w):X5k base T L v w':=by
 obtain⟨g,h1,h2,h3,h4,h5⟩:=h;exact⟨g,h1,h2,Nat.lt_of_lt_of_le h3 hb.size,h4.below hb h3,h5.below hb⟩
theorem Z9.nk {ops:Array Oper}{rest rest':List Oper}{o1 o2:Oper}{a:Act}{w W:World}{B:Nat}{bs:List (Nat×List Value)}{Q:Exit→Act→World→Prop}{n:Nat}{l l':List (Nat×Value)}(H:Z9 a n l) (O:X0 W B bs w) (k:Nat) {d T m:Nat}{y:Operand}{L L0:List Value}(h1:L.all (·.oneCell')=true)
  (hz:∀w,(zeroValue T).run Tryz.prog w = .ok (.agg L0.toArray) w) (hm:(Tryz.prog.info? T).map (·.size)=some m) (h:∀a' w',Below w.heap.size w w'→X0 W B ((w.heap.size,L)::bs) w'→Z3z w' w.heap.size T→Z9 a' n l'→wpList Tryz.prog ops Q rest' a' w') (ho:o1.op = .alloc T:=by rfl) (hd:o1.dst=some d:=by rfl) (hn:Nat.blt d n=true:=by rfl)
  (hg:o1.guard=none:=by rfl) (ho2:o2.op = .store T (.tmp d) y:=by rfl) (hd2:o2.dst=none:=by rfl) (hg2:o2.guard=none:=by rfl) (hy:W1 ((d,pz w.heap.size)::l) y=some (.agg L.toArray):=by rfl) (hl:L.length=m:=by rfl) (hl0:L0.length=m:=by rfl)
  (hr:Z3n n k rest ((d,pz w.heap.size)::l)=some (rest',l'):=by rfl):wpList Tryz.prog ops Q (o1::o2::rest) a w:=by
 have hb:=G0 w (.cells L0.toArray T);have hC:X5 (w.alloc (.cells L0.toArray T)) w.heap.size L0:=X5.of_heap (heap_alloc_new w _);have O1:=O.alloc hb (by simp) hC;have hT1:Z3z (w.alloc (.cells L0.toArray T)) w.heap.size T:=⟨_,_,heap_alloc_new w _⟩;refine H.go (w':=w.alloc (.cells L0.toArray T)) (gz hg) hd hn (pz w.heap.size) ?_ fun a1 H1=>?_
 ·unfold execOp
  simp only[ho];simp[Instr.alloc,hz,Sem.run_bind,Result.andThen,newVar,newRow,Value.cells,newObj];rfl
 have ht:(w.alloc (.cells L0.toArray T)).there w.heap.size 0 L.toArray.size:=by
  have:=hC.there;rw[hl0,←hl] at this
  simpa using this
 have hr2:=run_storeAt_mid (P:=Tryz.prog) (w.alloc (.cells L0.toArray T)) w.heap.size 0 T L.toArray ht (by rw[hm,←hl];simp) (all_oneCell_toArray fun v hv=>List.all_eq_true.1 h1 v hv);have hgr:=(D3 w.heap.size L 0 (w.alloc (.cells L0.toArray T))).2;refine H1.run0 (gz hg2) hd2 (Q6 ho2 (H1.ev (by show (bif Nat.beq d d then _ else _)=_;rw[Nat.beq_refl,cond_true])) (H1.ev hy) hr2) fun a2 H2=>W4 k H2 hr fun a3 H3=>h a3 _ (hb.grown hgr hb.size (fun k hk=>by injection hk with hk;rw[←hk];exact Nat.le_refl _)) (O1.store 0 rfl hgr (D3 w.heap.size L 0 _).1.size ?_) (hT1.sets _ L 0) H3;intro j v hv;have hj:=(List.getElem?_eq_some_iff.1 hv).1;have a:=World.rangeAt_setCells_same _ w.heap.size 0 L (by simpa using ht) j v hv;have b:=(World.there_setCells (by simpa using ht) w.heap.size 0 L j hj).2;rw[Nat.zero_add] at a b;exact⟨a,b⟩
theorem Z9.app {ops:Array Oper}{rest:List Oper}{o:Oper}{a:Act}{w:World}{Q:Exit→Act→World→Prop}{n:Nat}{l:List (Nat×Value)}(H:Z9 a n l) {s x:Operand}{t e:TypeId}{d base size bytes k m c:Nat}{z u:Value}{A:Option Addr}{xs ys:List Value}(hown:w.ownsRow base e size u k xs) (hi:(Tryz.prog.info? e).map (fun i=>(i.zero,i.size,i.bytes))=some (some z,size,bytes))
  (hr:X4 w w.heap.size size A m ys) (h1:∀u∈ys,u.oneCell'=true) (hn:k+m≤maxLen) (hb:(k+m)*bytes≤140737488355328) (hbase:base≤w.heap.size) (h:∀a' A' c' w',w'.ownsRow base e size (.slice A' (k+m) c') (k+m) (xs++ys)→w.grownBy w' u.ownBlock→Z9 a' n ((d, .slice A' (k+m) c')::l)→wpList Tryz.prog ops Q rest a' w')
  (ho:o.op = .call { callee:=.builtin .append,args:=#[s,x],argTypes:=#[t,t] }:=by rfl) (hd:o.dst=some d:=by rfl) (hnn:Nat.blt d n=true:=by rfl) (hg:o.guard=none:=by rfl) (ht:Tryz.prog.underlying t=some (.slice e):=by kernel_rfl) (hzs:z.cells.size=size:=by rfl) (hsz:0<size:=by decide)
  (hs:W1 l s=some u:=by rfl) (hx:W1 l x=some (.slice A m c):=by rfl):wpList Tryz.prog ops Q (o::rest) a w:=by
 obtain⟨A',c',w',hrun,hO,hgr⟩:=X8c (a:=a) ho ht hi hzs hsz (H.ev hs) hown (H.ev hx) hr h1 hn hb hbase;exact H.go (gz hg) hd hnn _ hrun fun a' H'=>h a' A' c' w' hO hgr H'
theorem X0.row {W w w':World}{B:Nat}{bs:List (Nat×List Value)}{b e s n:Nat}{v:Value}{xs:List Value}(O:X0 W B bs w) (hO:w.ownsRow b e s v n xs) (hB:B≤b) (hg:w.grownBy w' v.ownBlock) (hall:∀p∈bs,some p.1≠v.ownBlock):X0 W B bs w':=
 ⟨O.bel.grown hg O.le fun k hk=>Nat.le_trans hB (hO.lt k hk).1,Nat.le_trans O.le hg.size,O.nd,fun p hp=>⟨(O.mem p hp).1,Nat.lt_of_lt_of_le (O.mem p hp).2.1 hg.size,(O.mem p hp).2.2.kept hg (O.mem p hp).2.1 (hall p hp)⟩⟩
theorem S4 {w:World}{b n:Nat}{xs:List UInt8}{A:Option Addr}{c:Nat}(hn:xs.length=n) (h:w.ownsRow b 5 1 (.slice A n c) n (xs.map bv)) (_hb:b≤w.heap.size):RB w w.heap.size A xs:=by
 subst hn;obtain⟨_,_,e,hr⟩:=(Y2.read (b:=b) ⟨A,c,rfl,h⟩:K0 xs (.slice A xs.length c) w);injection e with h1 _ _
 subst h1;exact hr
theorem Z4s {w:World}{b e s n c:Nat}{A:Option Addr}{xs:List Value}(h:w.ownsRow b e s (.slice A n c) n xs):n≤c:=by
 obtain⟨_,_,hve,hcr,_⟩:=V3 h;injection hve with _ _ hce
 rw[hce];exact hcr
theorem Y0l (a b:Nat) (h:a+b<1000000) (x y:Operand) (w:World):(do eqGuard .add 3 x y (iz a) (iz b);binOp .add 3 (iz a) (iz b):Sem Value).run Tryz.prog w = .ok (iz ((a+b:Nat):Int)) w:=by
 have:IntKind.i64.wrap ((a:Int)+(b:Int))=((a+b:Nat):Int):=by rw[←Int.natCast_add];exact IntWalk.i64_in _ (by omega)
 simp[go_sem];exact this
theorem Z7d (A:Option Addr) (n c lo:Nat) (h1:lo≤n) (_h3:n≤c) (w:World):(Instr.sliceAt 31 (.slice A n c) (some (iz lo)) none none).run Tryz.prog w = .ok (.slice (if c=lo then A else A.map (·.add lo)) (n-lo) (c-lo)) w:=by
 simp[go_sem];omega
theorem Z8v {P:Program}{o:Oper}{a:Act}{w:World}{T:Nat}{x lo:Operand}{u v r:Value}(ho:o.op = .slice T x (some lo) none none) (hx:a.eval x=u) (hl:a.eval lo=v) (hq:(Instr.sliceAt T u (some v) none none).run P w = .ok r w):(execOp a.eval o).run P w = .ok (.value r) w:=by
 unfold execOp;simp only[ho,hx,Option.map_some,Option.map_none,hl,Sem.run_bind,hq,Result.andThen_ok,Sem.run_pure]
theorem N0 (A:Option Addr) (n c lo hi:Nat) (h1:lo≤hi) (h2:hi≤n) (h3:n≤c) (w:World):(Instr.sliceAt 31 (.slice A n c) (some (iz lo)) (some (iz hi)) none).run Tryz.prog w = .ok (.slice (if c=lo then A else A.map (·.add lo)) (hi-lo) (c-lo)) w:=by
 simp[go_sem];rw[if_pos (by omega),if_pos h1]
theorem Z4t (A:Option Addr) (n c hi:Nat) (h2:hi≤n) (h3:n≤c) (w:World):(Instr.sliceAt 31 (.slice A n c) none (some (iz hi)) none).run Tryz.prog w = .ok (.slice A hi c) w:=by
 simp[go_sem];intro h;omega
theorem Y9z (b o n c:Nat) (hn:0<n) (w:World):(Instr.indexAt 31 (.slice (some ⟨b,o,none⟩) n c) (iz 0)).run Tryz.prog w = .ok (.pointer (some ⟨b,o,none⟩)) w:=by
 have h:=U7 31 Tryz.underlying31 (fun _=>by kernel_rfl) b o n c 0 hn w;have e:((0:Nat):Int)=0:=rfl;rw[e,Nat.add_zero] at h;exact h
theorem gC {P:Program}{f:FuncId}{args:Array Value}{w:World}{v:Value}{r:Option Nat}(h:Calls P f args w fun e w'=>e = .returned v∧w.grownBy w' r):Calls P f args w fun e w'=>∃v',e = .returned v'∧(v'=v∧w.grownBy w' r):=
 h.mono fun _ _ h=>⟨v,h.1,rfl,h.2⟩
theorem Z3u (T:TypeId) (hT:Tryz.prog.underlying T=some (.slice (Tryz.prog.elem T))) (m:Nat) (hs:∀w,(sizeOf (Tryz.prog.elem T)).run Tryz.prog w = .ok m w) (b o n c k:Nat) (hk:k<n) (w:World):(Instr.indexAt T (.slice (some ⟨b,o,none⟩) n c) (iz k)).run Tryz.prog w = .ok (.pointer (some ⟨b,o+k*m,none⟩)) w:=by
 rw[run_indexAt_slice (h:=hT),if_pos ⟨by omega,by omega⟩,hs];have e:(Addr.mk b o none).add ((k:Int).toNat*m)=⟨b,o+k*m,none⟩:=by
  rw[Int.toNat_natCast];unfold Addr.add;by_cases h:k*m=0
  ·rw[if_pos h,h];rfl
  ·rw[if_neg h]
 rw[Result.andThen_ok,e]
theorem Z1c (u v:Int) (b:Bool) (h:(u != v)=b) (x y:Operand) (w:World):(do eqGuard .neq 3 x y (iz u) (iz v);binOp .neq 3 (iz u) (iz v):Sem Value).run Tryz.prog w = .ok (.bool b) w:=by
 rw[←h];simp[go_sem]
theorem Z7 (u v:Int) (b:Bool) (h:(u==v)=b) (x y:Operand) (w:World):(do eqGuard .eql 3 x y (iz u) (iz v);binOp .eql 3 (iz u) (iz v):Sem Value).run Tryz.prog w = .ok (.bool b) w:=by
 rw[←h];exact N8 u v x y w
theorem Y5i {w w':World}{b e s n:Nat}{v:Value}{xs:List Value}{r:Option Nat}(h:w.ownsRow b e s v n xs) (hg:w.grownBy w' r) (hr:∀q,r=some q→q<b):w'.ownsRow b e s v n xs:=by
 refine h.kept hg ?_;rcases hv:v.ownBlock with _ |q1
 ·exact .inl rfl
 ·refine .inr fun he=>?_
  have a:=(h.lt q1 hv).1;have c:=hr q1 he.symm;omega
section
variable {P:Program}{o:Oper}{a:Act}{w:World}
theorem Z5b {T:Nat}{x lo hi:Operand}{u v y r:Value}(ho:o.op = .slice T x (some lo) (some hi) none) (hx:a.eval x=u) (hl:a.eval lo=v) (hh:a.eval hi=y) (hq:(Instr.sliceAt T u (some v) (some y) none).run P w = .ok r w):(execOp a.eval o).run P w = .ok (.value r) w:=by
 unfold execOp;simp only[ho,hx,Option.map_some,Option.map_none,hl,hh,Sem.run_bind,hq,Result.andThen_ok,Sem.run_pure]
theorem Z6l {T:Nat}{x hi:Operand}{u y r:Value}(ho:o.op = .slice T x none (some hi) none) (hx:a.eval x=u) (hh:a.eval hi=y) (hq:(Instr.sliceAt T u none (some y) none).run P w = .ok r w):(execOp a.eval o).run P w = .ok (.value r) w:=by
 unfold execOp;simp only[ho,hx,Option.map_some,Option.map_none,hh,Sem.run_bind,hq,Result.andThen_ok,Sem.run_pure]
end
section
variable {ops:Array Oper}{Q:Exit→Act→World→Prop}{n:Nat}{l fixed:List (Nat×Value)}{F:World→Prop}{es:List Y7}{i s:Nat}{o:Oper}
theorem ka {T base:Nat}{L:List Value}(hz:∀w,(zeroValue T).run Tryz.prog w = .ok (.agg L.toArray) w) (hb:∀w,F w→base≤w.heap.size) (ho:ops[i]? = some o:=by rfl) (hp:o.op = .alloc T:=by rfl) (hd:o.dst=some s:=by rfl) (hg:okG ops (fixed++K8 (D4 ops i) es) o=true:=by rfl):Z1z ops Q n fixed F es (er i s [] (X5k base T L)):=
 kx (t:=er i s [] (X5k base T L)) (fun a w _ _ hF=>⟨pz w.heap.size,w.alloc (.cells L.toArray T),by
  unfold execOp;simp only[hp];simp[Instr.alloc,hz,Sem.run_bind,Result.andThen,newVar,newRow,Value.cells,newObj];rfl,⟨w.heap.size,rfl,hb w hF,T7 _ _,X5.of_heap (heap_alloc_new w _),⟨_,_,heap_alloc_new w _⟩⟩,G0 _ _⟩) ho hd hg
theorem jh {Wp:World→Prop}{T:Nat}{x hi:Operand}{u y r:Value}(hq:∀w,(Instr.sliceAt T u none (some y) none).run Tryz.prog w = .ok r w) (ho:ops[i]? = some o:=by rfl) (hp:o.op = .slice T x none (some hi) none:=by rfl) (hd:o.dst=some s:=by rfl) (hg:okG ops l o=true:=by rfl) (hx:W1 l x=some u:=by rfl) (hy:W1 l hi=some y:=by rfl):Z1h ops Q n l Wp i s r:=
 fun _ _ w H _ hK=>V7 ho (Z0g H hg) s hd r w (Z6l hp (H.ev hx) (H.ev hy) (hq w)) hK
theorem js2 {Wp:World→Prop}{T:Nat}{x lo hi:Operand}{u y z r:Value}(hq:∀w,(Instr.sliceAt T u (some y) (some z) none).run Tryz.prog w = .ok r w) (ho:ops[i]? = some o:=by rfl) (hp:o.op = .slice T x (some lo) (some hi) none:=by rfl) (hd:o.dst=some s:=by rfl) (hg:okG ops l o=true:=by rfl) (hx:W1 l x=some u:=by rfl) (hy:W1 l lo=some y:=by rfl) (hz:W1 l hi=some z:=by rfl):Z1h ops Q n l Wp i s r:=
 fun _ _ w H _ hK=>V7 ho (Z0g H hg) s hd r w (Z5b hp (H.ev hx) (H.ev hy) (H.ev hz) (hq w)) hK
end
theorem Y2.of {b n c:Nat}{A:Option Addr}{xs:List UInt8}{w:World}(hn:xs.length=n) (h:w.ownsRow b 5 1 (.slice A n c) n (xs.map bv)):Y2 b xs (.slice A n c) w:=by
 subst hn;exact⟨A,c,rfl,h⟩
theorem St.less {ops:Array Oper}{Q:Exit→Act→World→Prop}{n:Nat}{fixed:List (Nat×Value)}(fixed':List (Nat×Value)) {es:List Y7}{F:World→Prop}{done:List Nat}(hs:∀a,W7 a fixed→W7 a fixed') (h:St ops Q n fixed' es F done):St ops Q n fixed es F done:=
 fun fuel listed a w h1 h2 h3 h4 h5 hI=>h fuel listed a w h1 h2 h3 h4 h5 ⟨hI.sz,hI.df,hs a hI.fx,hI.vs,hI.wp⟩
theorem D6 (g o:Nat) (v:Int) (u:Value) (w:World) (h:w.cell? ⟨g,o,none⟩=some u) (hf:w.frozen? ⟨g,o,none⟩=false):(Instr.storeAt 3 (.pointer (some ⟨g,o,none⟩)) (iz v)).run Tryz.prog w = .ok () (w.setCell ⟨g,o,none⟩ (iz v)):=by
 simp[go_sem,h,hf]
theorem B7 (g o:Nat) (v:Bool) (u:Value) (w:World) (h:w.cell? ⟨g,o,none⟩=some u) (hf:w.frozen? ⟨g,o,none⟩=false):(Instr.storeAt 4 (.pointer (some ⟨g,o,none⟩)) (.bool v)).run Tryz.prog w = .ok () (w.setCell ⟨g,o,none⟩ (.bool v)):=by
 simp[go_sem,h,hf]
theorem Z4a (g o:Nat) (v:ByteArray) (u:Value) (w:World) (h:w.cell? ⟨g,o,none⟩=some u) (hf:w.frozen? ⟨g,o,none⟩=false):(Instr.storeAt 9 (.pointer (some ⟨g,o,none⟩)) (.string v)).run Tryz.prog w = .ok () (w.setCell ⟨g,o,none⟩ (.string v)):=by
 simp[go_sem,h,hf]
theorem Z9r (g o n c:Nat) (A:Option Addr) (u:Value) (w:World) (h:w.cell? ⟨g,o,none⟩=some u) (hf:w.frozen? ⟨g,o,none⟩=false):(Instr.storeAt 31 (.pointer (some ⟨g,o,none⟩)) (.slice A n c)).run Tryz.prog w = .ok () (w.setCell ⟨g,o,none⟩ (.slice A n c)):=by
 simp[go_sem,h,hf]
theorem Z9.put1 {ops:Array Oper}{rest rest':List Oper}{o:Oper}{a:Act}{w:World}{Q:Exit→Act→World→Prop}{n:Nat}{l l':List (Nat×Value)}(H:Z9 a n l) {g j T:Nat}{x y:Operand}{v:Value}{L:List Value}(hC:X5 w g L) (k:Nat)
  (hst:∀u,w.cell? ⟨g,j,none⟩=some u→w.frozen? ⟨g,j,none⟩=false→(Instr.storeAt T (.pointer (some ⟨g,j,none⟩)) v).run Tryz.prog w = .ok () (w.setCell ⟨g,j,none⟩ v))
  (h:∀a' w',X5 w' g (L.set j v)→w.grownBy w' (some g)→Z9 a' n l'→wpList Tryz.prog ops Q rest' a' w')
  (ho:o.op = .store T x y:=by rfl) (hd:o.dst=none:=by rfl) (hg:o.guard=none:=by rfl) (hx:W1 l x=some (.pointer (some ⟨g,j,none⟩)):=by rfl) (hy:W1 l y=some v:=by rfl) (hj:Nat.blt j L.length=true:=by rfl)
  (hr:Z3n n k rest l=some (rest',l'):=by rfl):wpList Tryz.prog ops Q (o::rest) a w:=by
 have hj':j<L.length:=by simpa [Nat.blt_eq] using hj
 obtain⟨c1,c2⟩:=hC j _ (List.getElem?_eq_getElem hj');exact H.store (gz hg) ho hd hx hy (hst _ c1 c2) fun a' H'=>W4 k H' hr fun a'' H''=>h a'' _ (hC.set j v hj') (X7 w g j v) H''
theorem X0.turn {W w w':World}{B:Nat}{bs:List (Nat×List Value)}(h:X0 W B bs w) (i:Nat) {g:Nat}{L L':List Value}(hi:bs[i]? = some (g,L)) (hg:w.grownBy w' (some g)) (hC:X5 w' g L'):X0 W B (bs.set i (g,L')) w':=by
 have hgB:=h.ge i hi;have hglt:=h.lt i hi;have hs:=hg.size;have hli:i<bs.length:=(List.getElem?_eq_some_iff.1 hi).1;have hmap:(bs.set i (g,L')).map (·.1)=bs.map (·.1):=by
  apply List.ext_getElem?;intro j;rw[List.getElem?_map,List.getElem?_map,List.getElem?_set];by_cases e:i=j
  ·subst e
   simp only[if_true,hli,hi,Option.map_some]
  ·rw[if_neg e]
 refine⟨h.bel.grown hg h.le (fun k hk=>by injection hk with hk;rw[←hk];exact hgB),Nat.le_trans h.le hs,by rw[hmap];exact h.nd,fun p hp=>?_⟩;obtain⟨j,hj⟩:=List.getElem?_of_mem hp;rw[List.getElem?_set] at hj;by_cases e:i=j
 ·rw[if_pos e,if_pos hli] at hj
  injection hj with hj
  subst hj;exact⟨hgB,Nat.lt_of_lt_of_le hglt hs,hC⟩
 ·rw[if_neg e] at hj
  have hm:=h.mem p (List.mem_of_getElem? hj);refine⟨hm.1,Nat.lt_of_lt_of_le hm.2.1 hs,hm.2.2.kept hg hm.2.1 (fun e2=>e ?_)⟩;injection e2 with e2
  have h1:(bs.map (·.1))[i]? = some g:=by rw[List.getElem?_map,hi];rfl
  have h2:(bs.map (·.1))[j]? = some g:=by rw[List.getElem?_map,hj,←e2];rfl
  exact Y2j h.nd h1 h2
theorem U0 {P:Program}{fn:Func}{p q:Tmp}{T:TypeId}(h:fn.results = #[.cell p T, .tmp q]) (tmps:Array Value) {w:World}{g:Nat}{l:List Value}(d:TypeDesc) (v:Value) (hp:tmps.getD p undef=pz g) (hq:tmps.getD q undef=v) (hC:X5 w g l)
  (hu:P.underlying T=some d) (hd:d.isRow=true) (n:Nat) (hi:(P.info? T).map (·.size)=some n) (hl:l.length=n):(results fn tmps).run P w = .ok (.tuple #[.agg l.toArray,v]) w:=by
 rw[←hl] at hi;have hp':tmps[p]?.getD undef=pz g:=by simpa using hp
 have hq':tmps[q]?.getD undef=v:=by simpa using hq
 simp[results,h,hp',hq',asAddr,run_loadVar_mid w g 0 T l d hC.range hu hd hi]
theorem Y5k {T m g:Nat}{w:World}{L:List Value}{d:TypeDesc}(hC:X5 w g L) (hu:Tryz.prog.underlying T=some d) (hd:d.isRow=true) (hi:(Tryz.prog.info? T).map (·.size)=some m) (hl:L.length=m):(Instr.loadAt T (pz g)).run Tryz.prog w = .ok (.agg L.toArray) w:=by
 rw[←hl] at hi;have:=run_loadVar_mid w g 0 T L _ hC.range hu hd hi;simp only[Instr.loadAt,Instr.sureAddr,Sem.run_bind,Sem.run_pure,Result.andThen_ok,this]
section
variable {ops:Array Oper}{Q:Exit→Act→World→Prop}{n:Nat}{l fixed:List (Nat×Value)}{F:World→Prop}{es:List Y7}{i s:Nat}{o:Oper}
theorem js1 {Wp:World→Prop}{T:Nat}{x lo:Operand}{u y r:Value}(hq:∀w,(Instr.sliceAt T u (some y) none none).run Tryz.prog w = .ok r w) (ho:ops[i]? = some o:=by rfl) (hp:o.op = .slice T x (some lo) none none:=by rfl) (hd:o.dst=some s:=by rfl) (hg:okG ops l o=true:=by rfl) (hx:W1 l x=some u:=by rfl) (hy:W1 l lo=some y:=by rfl):Z1h ops Q n l Wp i s r:=
 fun _ _ w H _ hK=>V7 ho (Z0g H hg) s hd r w (Z8v hp (H.ev hx) (H.ev hy) (hq w)) hK
end
theorem X8g (u v:Int) (b:Bool) (h:(u==v)=b) (x y:Operand) (w:World):(do eqGuard .eql 5 x y (.int .u8 u) (.int .u8 v);binOp .eql 5 (.int .u8 u) (.int .u8 v):Sem Value).run Tryz.prog w = .ok (.bool b) w:=by
 rw[←h];simp[go_sem]
theorem J3s {o:Oper}{a:Act}{w:World}{x y:Operand}{u v:Int}(ho:o.op = .call { callee:=.builtin .min,args:=#[x,y],argTypes:=#[3,3] }) (hx:a.eval x=iz u) (hy:a.eval y=iz v):(execOp a.eval o).run Tryz.prog w = .ok (.value (iz (min u v))) w:=by
 unfold execOp;simp only[ho,resolve,invoke,builtin,Sem.run_bind,Sem.run_pure,Result.andThen_ok,List.map_toArray,List.map_cons,List.map_nil,hx,hy];rw[Lib.run_min_ints];rfl
theorem J3t {o:Oper}{a:Act}{w:World}{x y:Operand}{u v:Int}(ho:o.op = .call { callee:=.builtin .max,args:=#[x,y],argTypes:=#[3,3] }) (hx:a.eval x=iz u) (hy:a.eval y=iz v):(execOp a.eval o).run Tryz.prog w = .ok (.value (iz (max u v))) w:=by
 unfold execOp;simp only[ho,resolve,invoke,builtin,Sem.run_bind,Sem.run_pure,Result.andThen_ok,List.map_toArray,List.map_cons,List.map_nil,hx,hy];rw[Lib.run_max_ints];rfl
theorem X0.perm {W w:World}{B:Nat}{bs bs':List (Nat×List Value)}(h:X0 W B bs w) (hp:bs.Perm bs'):X0 W B bs' w:=
 ⟨h.bel,h.le,(hp.map _).nodup_iff.1 h.nd,fun p hm=>h.mem p (hp.mem_iff.2 hm)⟩
theorem X0.sub {W w:World}{B:Nat}{bs bs':List (Nat×List Value)}(h:X0 W B bs w) (hp:bs'.Sublist bs):X0 W B bs' w:=
 ⟨h.bel,h.le,(hp.map _).nodup h.nd,fun p hm=>h.mem p (hp.subset hm)⟩
theorem X0.addq {W w w':World}{B:Nat}{bs:List (Nat×List Value)}(h:X0 W B bs w) {q:Nat}{L:List Value}(hg:w.grownBy w' (some q)) (hB:B≤q) (hlt:q<w.heap.size) (hne:∀p∈bs,p.1≠q) (hC:X5 w' q L):X0 W B ((q,L)::bs) w':=by
 refine⟨h.bel.grown hg h.le (fun k hk=>by injection hk with hk;omega),Nat.le_trans h.le hg.size, ?_,fun p hp=>?_⟩
 ·rw[List.map_cons,List.nodup_cons]
  exact⟨fun hm=>by obtain⟨p,hp,e⟩:=List.mem_map.1 hm;exact hne p hp e,h.nd⟩
 ·rcases List.mem_cons.1 hp with rfl |hp
  ·exact⟨hB,Nat.lt_of_lt_of_le hlt hg.size,hC⟩
  ·have hm:=h.mem p hp
   exact⟨hm.1,Nat.lt_of_lt_of_le hm.2.1 hg.size,hm.2.2.kept hg hm.2.1 (by intro e;injection e with e;exact hne p hp e)⟩
theorem J8f (w:World) (l:List Value) (e:TypeId) (size n:Nat) (hl:l.length=n*size) (hn:n≤maxLen):(w.alloc (.cells l.toArray e)).ownsRow w.heap.size e size (.slice (some ⟨w.heap.size,0,none⟩) n n) n l:=
 ⟨hl, .inr ⟨w.heap.size,n,l.toArray,rfl,Nat.le_refl _,heap_alloc_new w _,Nat.le_refl _,hn,by simp[hl],by simp[←hl]⟩⟩
end
section
open Go.RowKit
theorem Q1o (n:Int) (w:World):Calls Tryz.prog 47 #[.int .i64 n] w fun e w'=>e = .returned (.bool (inR n 4294967295))∧w=w':=by
 by_cases h1:0≤n
 ·by_cases h2:n<4294967296
  ·have H:=Lib.hid (T5.2 ⟨h1,show n≤4294967295 by omega⟩)
   go_enter Tryz.func47,Tryz.ntmps47
   go_wp2
   go_ret
   exact⟨by rw[H.out];rfl,rfl⟩
  ·have H:=Lib.hid (Bool.eq_false_iff.2 fun h=>h2 (by have:=(T5.1 h).2;omega):inR n 4294967295=false)
   go_enter Tryz.func47,Tryz.ntmps47
   go_wp2
   go_ret
   exact⟨by rw[H.out];rfl,rfl⟩
 ·have H:=Lib.hid (Bool.eq_false_iff.2 fun h=>h1 (T5.1 h).1:inR n 4294967295=false)
  go_enter Tryz.func47,Tryz.ntmps47
  go_wp2
  go_ret
  exact⟨by rw[H.out];rfl,rfl⟩
theorem X2i (a:Nat) (h:a<9223372036854775808) (x y:Operand) (w:World):(do eqGuard .and 3 x y (.int .i64 (a:Int)) (.int .i64 4294967295);binOp .and 3 (.int .i64 (a:Int)) (.int .i64 4294967295):Sem Value).run Tryz.prog w = .ok (.int .i64 ((a%4294967296:Nat):Int)) w:=by
 have h1:=Z1d a 4294967295 h (by decide);have h2:a&&&4294967295=a%4294967296:=Nat.and_two_pow_sub_one_eq_mod a 32;rw[h2] at h1;simp[go_sem];exact h1
theorem Q4l (a b:Nat) (h:a+b<9223372036854775808) (x y:Operand) (w:World):(do eqGuard .add 3 x y (.int .i64 (a:Int)) (.int .i64 (b:Int));binOp .add 3 (.int .i64 (a:Int)) (.int .i64 (b:Int)):Sem Value).run Tryz.prog w = .ok (.int .i64 ((a+b:Nat):Int)) w:=by
 have:IntKind.i64.wrap ((a:Int)+(b:Int))=((a+b:Nat):Int):=by rw[←Int.natCast_add];exact IntWalk.i64_in _ (by omega)
 simp[go_sem];exact this
def Y6 (s n:Nat):Nat:=(s%4294967296+n%4294967296)%4294967296
theorem Y1k (s n:Nat):Y6 s n<4294967296:=Nat.mod_lt _ (by decide)
theorem Y1l (s n:Nat) (hs:s<9223372036854775808) (hn:n<9223372036854775808) (w:World):Calls Tryz.prog 48 #[.int .i64 (s:Int), .int .i64 (n:Int)] w fun e w'=>e = .returned (.int .i64 ((Y6 s n:Nat):Int))∧w=w':=by
 go_enter Tryz.func48,Tryz.ntmps48
 refine Z9.start 11 [(0, .int .i64 (s:Int)),(1, .int .i64 (n:Int))] rfl rfl ⟨rfl,rfl,trivial⟩ ?_;intro a0 H0;refine H0.rg 1 fun a1 H1=>nt ?_;refine H1.rg 1 fun a H=>?_;refine H.bn 1 (X2i s hs _ _ _) fun a H=>?_;refine H.bn 0 (X2i n hn _ _ _) fun a H=>?_;refine H.bn 0 (Q4l (s%4294967296) (n%4294967296) (by omega) _ _ _) fun a H=>?_;refine H.bn 1 (X2i (s%4294967296+n%4294967296) (by omega) _ _ _) fun a H=>nt (wp_ret ?_);repeat with_reducible first |apply Z4 |apply Z5
 exact bodyPost_ret (results_tmp rfl _ _ _) H.df ⟨congrArg Ending.returned (H.at_ 4 _ rfl),rfl⟩
end
section
open Go.RowKit
def spV (s n:Nat):Value:=.complex .f64 (fl s) (fl n)
theorem Q4m (z:Int):bits .and .i64 z 4294967295=((z%4294967296).toNat:Int):=by
 show IntKind.i64.wrap ((BitVec.ofInt 64 z&&&BitVec.ofInt 64 4294967295).toNat:Int)=_;have h1:(BitVec.ofInt 64 4294967295).toNat=4294967295:=by decide
 have h2:(BitVec.ofInt 64 z).toNat=(z%18446744073709551616).toNat:=by rw[BitVec.toNat_ofInt];rfl
 rw[BitVec.toNat_and,h1,h2,show (4294967295:Nat)=2^32-1 from rfl,Nat.and_two_pow_sub_one_eq_mod];have h3:((z%18446744073709551616).toNat%2^32:Nat)=(z%4294967296).toNat:=by omega
 rw[h3];exact IntWalk.i64_in _ (by omega)
theorem Q1p (z:Int) (d:Nat) (hd:(z%4294967296).toNat=d) (x y:Operand) (w:World):(do eqGuard .and 3 x y (.int .i64 z) (.int .i64 4294967295);binOp .and 3 (.int .i64 z) (.int .i64 4294967295):Sem Value).run Tryz.prog w = .ok (.int .i64 (d:Int)) w:=by
 have h:=Q4m z;rw[hd] at h;simp[go_sem];exact h
theorem X5l (u v:Int) (h1: -9223372036854775808≤u-v) (h2:u-v≤9223372036854775807) (x y:Operand) (w:World):(do eqGuard .sub 3 x y (.int .i64 u) (.int .i64 v);binOp .sub 3 (.int .i64 u) (.int .i64 v):Sem Value).run Tryz.prog w = .ok (.int .i64 (u-v)) w:=by
 simp[go_sem];exact IntWalk.i64_in _ (by omega)
theorem Q1q (u v:Int) (h1: -9223372036854775808≤u+v) (h2:u+v≤9223372036854775807) (x y:Operand) (w:World):(do eqGuard .add 3 x y (.int .i64 u) (.int .i64 v);binOp .add 3 (.int .i64 u) (.int .i64 v):Sem Value).run Tryz.prog w = .ok (.int .i64 (u+v)) w:=by
 simp[go_sem];exact IntWalk.i64_in _ (by omega)
def Y4 (a b:Nat):Int:=if (((a%4294967296:Nat):Int)-((b%4294967296:Nat):Int))%4294967296≥2147483648 then (((a%4294967296:Nat):Int)-((b%4294967296:Nat):Int))%4294967296-4294967296 else (((a%4294967296:Nat):Int)-((b%4294967296:Nat):Int))%4294967296
theorem Y2l (a b:Nat): -2147483648≤Y4 a b∧Y4 a b<2147483648:=by
 unfold Y4
 split<;>omega
theorem Y1m (u v:Nat) (ha:u<9223372036854775808) (hb:v<9223372036854775808) (w:World):Calls Tryz.prog 146 #[.int .i64 (u:Int), .int .i64 (v:Int)] w fun e w'=>e = .returned (.int .i64 (Y4 u v))∧w=w':=by
 go_enter Tryz.func146,Tryz.ntmps146
 refine Z9.start 17 [(0, .int .i64 (u:Int)),(1, .int .i64 (v:Int))] rfl rfl ⟨rfl,rfl,trivial⟩ ?_;intro a0 H0;obtain⟨d,hd⟩:∃d:Nat,(d:Int)=(((u%4294967296:Nat):Int)-((v%4294967296:Nat):Int))%4294967296:=⟨((((u%4294967296:Nat):Int)-((v%4294967296:Nat):Int))%4294967296).toNat,by omega⟩;have hdl:d<4294967296:=by omega
 refine H0.rg 1 fun a1 H1=>nt ?_;refine H1.rg 1 fun a H=>?_;refine H.bn 1 (X2i u ha _ _ _) fun a H=>?_;refine H.bn 0 (X2i v hb _ _ _) fun a H=>?_;refine H.bn 0 (X5l ((u%4294967296:Nat):Int) ((v%4294967296:Nat):Int) (by omega) (by omega) _ _ _) fun a H=>?_;refine H.bn 1 (Q1p (((u%4294967296:Nat):Int)-((v%4294967296:Nat):Int)) d (by omega) _ _ _) fun a H=>nt ?_;replace H:=H.kp [5];have hsp:Y4 u v=if (d:Int)≥2147483648 then (d:Int)-4294967296 else (d:Int):=by
  unfold Y4;rw[←hd]
 refine Z8 (fun a' w'=>w=w'∧Z9 a' 17 [(5, .int .i64 (Y4 u v))]) ?_ ?_
 rotate_left
 ·rintro a' w' ⟨rfl,H⟩
  refine H.rg 2 fun a H=>nt (wp_ret ?_);repeat with_reducible first |apply Z4 |apply Z5
  exact bodyPost_ret (results_tmp rfl _ _ _) H.df ⟨congrArg Ending.returned (H.at_ 4 _ rfl),rfl⟩
 refine H.rg 1 fun a' H=>?_;by_cases hc:(2147483648:Int)≤(d:Int)
 ·refine H.bb 0 rfl rfl rfl rfl rfl rfl (Z6k _ _ true (by rw[decide_eq_true_iff];exact hc) _ _ _) rfl fun a' H=>nt (H.condT rfl ?_)
  refine H.rg 1 fun a' H=>?_;refine H.bn 1 (X5l (d:Int) 4294967296 (by omega) (by omega) _ _ _) fun a' H=>wpList_nil ⟨rfl, ?_⟩;rw[hsp,if_pos hc];exact H.keep ⟨rfl,trivial⟩
 ·refine H.bb 0 rfl rfl rfl rfl rfl rfl (Z6k _ _ false (by rw[decide_eq_false_iff_not];exact hc) _ _ _) rfl fun a' H=>nt (H.condF rfl (Z3 ⟨rfl, ?_⟩))
  rw[hsp,if_neg hc];exact H.keep ⟨rfl,trivial⟩
theorem J3u (s n:Nat) (w:World):Calls Tryz.prog 118 #[.int .i64 (s:Int), .int .i64 (n:Int)] w fun e w'=>e = .returned (spV s n)∧w=w':=by
 go_enter Tryz.func118,Tryz.ntmps118
 go_wp2
 go_ret
 exact⟨rfl,rfl⟩
theorem X8i (u v:Int) (b:Bool) (h:(u != v)=b) (x y:Operand) (w:World):(do eqGuard .neq 27 x y (.int .i64 u) (.int .i64 v);binOp .neq 27 (.int .i64 u) (.int .i64 v):Sem Value).run Tryz.prog w = .ok (.bool b) w:=by
 subst h;simp[go_sem]
theorem X0a (u v:Nat) (hu:u<9007199254740992) (hv:v<9007199254740992):FloatKind.f64.format.order (fl u) (fl v)=some (compare (u:Int) (v:Int)):=J2l u v hu hv
theorem Q1r {u v:Nat}(h:u<v):compare (u:Int) (v:Int) = .lt:=by
 show compareOfLessAndEq _ _=_;unfold compareOfLessAndEq;rw[if_pos (by omega)]
theorem X5m (u:Nat):compare (u:Int) (u:Int) = .eq:=by
 show compareOfLessAndEq _ _=_;unfold compareOfLessAndEq;rw[if_neg (by omega),if_pos rfl]
theorem J3v {u v:Nat}(h:v<u):compare (u:Int) (v:Int) = .gt:=by
 show compareOfLessAndEq _ _=_;unfold compareOfLessAndEq;rw[if_neg (by omega),if_neg (by omega)]
theorem Q4n (u:Nat) (hu:u<9007199254740992) (x y:Operand) (w:World):(do eqGuard .geq 193 x y (.float .f64 (fl u)) (.float .f64 0);binOp .geq 193 (.float .f64 (fl u)) (.float .f64 0):Sem Value).run Tryz.prog w = .ok (.bool true) w:=by
 have h:=X0a u 0 hu (by decide);rw[Y9n] at h;have hb:(FloatKind.f64.format.order (fl u) 0==some .gt||FloatKind.f64.format.order (fl u) 0==some .eq)=true:=by
  rw[h];rcases Nat.eq_zero_or_pos u with rfl |hp
  ·rw[X5m];rfl
  ·rw[J3v hp];rfl
 simp[go_sem]
 simpa using hb
theorem Q4o (u v:Nat) (b:Bool) (hb:decide (u≤v)=b) (hu:u<9007199254740992) (hv:v<9007199254740992) (x y:Operand) (w:World):(do eqGuard .leq 193 x y (.float .f64 (fl u)) (.float .f64 (fl v));binOp .leq 193 (.float .f64 (fl u)) (.float .f64 (fl v)):Sem Value).run Tryz.prog w = .ok (.bool b) w:=by
 have h:=X0a u v hu hv;have hb:(FloatKind.f64.format.order (fl u) (fl v)==some .lt||FloatKind.f64.format.order (fl u) (fl v)==some .eq)=b:=by
  rw[h,←hb];rcases Nat.lt_trichotomy u v with hp |rfl |hp
  ·rw[Q1r hp,decide_eq_true (Nat.le_of_lt hp)];rfl
  ·rw[X5m,decide_eq_true (Nat.le_refl _)];rfl
  ·rw[J3v hp,decide_eq_false (by omega)];rfl
 simp[go_sem];exact hb
theorem Q4p (u:Nat) (hu:u<9007199254740992) (x y:Operand) (w:World):(do eqGuard .eql 193 x y (.float .f64 (fl u)) (.float .f64 (fl u));binOp .eql 193 (.float .f64 (fl u)) (.float .f64 (fl u)):Sem Value).run Tryz.prog w = .ok (.bool true) w:=by
 have h:=X0a u u hu hu;rw[X5m] at h;simp[go_sem,h]
theorem J3w (u:Nat) (w:World):(convert 3 193 (.int .i64 (u:Int))).run Tryz.prog w = .ok (.float .f64 (fl u)) w:=
 run_convert_int_float (P:=Tryz.prog) w 3 193 .i64 .f64 (u:Int) (by kernel_rfl) (by kernel_rfl)
theorem J8g (u:Nat) (hu:u<9007199254740992) (w:World):(convert 193 3 (.float .f64 (fl u))).run Tryz.prog w = .ok (.int .i64 (u:Int)) w:=
 run_convert_float_int (P:=Tryz.prog) w 193 3 .f64 .i64 (fl u) (u:Int) (by kernel_rfl) (by kernel_rfl) (Q1h u hu)
theorem Y7y (n m:Nat) (hn:n<9007199254740992) (hm:m<9007199254740992) (w:World):Calls Tryz.prog 138 #[.float .f64 (fl n), .int .i64 (m:Int)] w fun e w'=>e = .returned (if n≤m then .tuple #[.int .i64 (n:Int), .bool true] else .tuple #[.int .i64 0, .bool false])∧w=w':=by
 go_enter Tryz.func138,Tryz.ntmps138
 refine Z9.start 22 [(0, .float .f64 (fl n)),(1, .int .i64 (m:Int))] rfl rfl ⟨rfl,rfl,trivial⟩ ?_;intro a0 H0;refine H0.rg 2 fun a1 H1=>nt ?_;obtain⟨b,hb⟩:∃b,decide (n≤m)=b:=⟨_,rfl⟩;refine H1.rg 1 fun a H=>?_;refine H.bn 1 (Q4n n hn _ _ _) fun a H=>?_;refine H.move (H.wt rfl rfl rfl) (.inl rfl) rfl rfl rfl fun a H=>?_;refine H.move (H.wt rfl rfl rfl) (.inl rfl) rfl rfl rfl fun a H=>?_;refine H.conv (H.wt rfl rfl rfl) rfl rfl rfl rfl (J3w m _) fun a H=>?_;refine H.bin (H.wt rfl rfl rfl) rfl rfl rfl rfl rfl (Q4o n m b hb hn hm _ _ _) fun a H=>?_;refine H.pick gz rfl rfl rfl rfl rfl fun a H=>?_;refine H.un gz rfl rfl rfl rfl (G5 b _) fun a H=>nt (H.cond (t:= !b) rfl ?_);cases b with
 |false=>
  have h:¬n≤m:=of_decide_eq_false hb;rw[if_neg h];refine H.rg 2 fun a H=>nt (wp_ret ?_);repeat with_reducible first |apply Z4 |apply Z5
  exact bodyPost_ret (V9 rfl _ _ _ (H.at_ 4 _ rfl) (H.at_ 5 _ rfl)) H.df ⟨rfl,rfl⟩
 |true=>
  have h:n≤m:=of_decide_eq_true hb;rw[if_pos h];refine Z3 (Z0 ?_);replace H:=H.kp [0];refine H.rg 1 fun a H=>?_;refine H.cv 1 (J8g n hn _) fun a H=>nt ?_;refine H.rg 2 fun a H=>?_;refine H.cv 1 (J3w n _) fun a H=>?_;refine H.bn 2 (Q4p n hn _ _ _) fun a H=>nt (wp_ret ?_);repeat with_reducible first |apply Z4 |apply Z5
  exact bodyPost_ret (V9 rfl _ _ _ (H.at_ 4 _ rfl) (H.at_ 5 _ rfl)) H.df ⟨rfl,rfl⟩
theorem Y2m (s n:Nat) (hs:s≤4294967295) (hn:n≤65536) (w:World):Calls Tryz.prog 119 #[spV s n] w fun e w'=>e = .returned (.tuple #[.int .i64 (s:Int), .int .i64 (n:Int), .int .i64 0])∧w=w':=by
 go_enter Tryz.func119,Tryz.ntmps119
 refine Z9.start 27 [(0,spV s n)] rfl rfl ⟨rfl,trivial⟩ ?_;intro a0 H0;have k1:=Y7y s 4294967295 (by omega) (by decide) w;have k2:=Y7y n 65536 (by omega) (by decide) w;rw[if_pos hs] at k1;rw[if_pos hn] at k2;refine H0.rg 3 fun a1 H1=>nt ?_;refine H1.rg 1 fun a H=>?_;refine H.any (w':=w) gz rfl rfl (.float .f64 (fl s)) (by intro cs b h;cases h) (by kernel_rfl) (by kernel_rfl) fun a H=>?_;refine H.cq 1 k1 fun a H=>?_;refine H.ex (r:=.int .i64 (s:Int)) 0 fun a H=>?_;refine H.ex (r:=.bool true) 2 fun a H=>nt ?_;refine H.rg 1 fun a H=>?_;refine H.any (w':=w) gz rfl rfl (.float .f64 (fl n)) (by intro cs b h;cases h) (by kernel_rfl) (by kernel_rfl) fun a H=>?_;refine H.cq 1 k2 fun a H=>?_;refine H.ex (r:=.int .i64 (n:Int)) 0 fun a H=>?_;refine H.ex (r:=.bool true) 2 fun a H=>nt ?_;replace H:=H.kp [2,3,5,6];refine H.rg 1 fun a H=>?_;refine H.un gz rfl rfl rfl rfl (G5 true _) fun a H=>?_;refine H.ms 1 fun a H=>?_;refine H.move (H.wt rfl rfl rfl) (.inl rfl) rfl rfl rfl fun a H=>?_;refine H.un (H.wt rfl rfl rfl) rfl rfl rfl rfl (G5 true _) fun a H=>?_;refine H.pick gz rfl rfl rfl rfl rfl fun a H=>nt (H.condF rfl (Z3 (Z0 ?_)));refine H.rg 5 fun a H=>nt (wp_ret ?_);repeat with_reducible first |apply Z4 |apply Z5
 exact bodyPost_ret (U5 rfl _ _ _ _ (H.at_ 2 _ rfl) (H.at_ 3 _ rfl) (H.at_ 4 _ rfl)) H.df ⟨rfl,rfl⟩
theorem Y5l (s n:Nat) (hs:s≤4294967295) (hn:n≤65536) (w:World):Calls Tryz.prog 88 #[.int .i64 (s:Int), .int .i64 (n:Int)] w fun e w'=>e = .returned (.tuple #[spV s n, .int .i64 0])∧w=w':=by
 have h1:inR (s:Int) 4294967295=true:=T5.2 ⟨by omega,by omega⟩;go_enter Tryz.func88,Tryz.ntmps88;refine Z9.start 20 [(0, .int .i64 (s:Int)),(1, .int .i64 (n:Int))] rfl rfl ⟨rfl,rfl,trivial⟩ ?_;intro a0 H0;refine H0.rg 2 fun a1 H1=>nt ?_;refine H1.rg 1 fun a H=>?_;refine H.cq 0 (h1▸Q1o (s:Int) w) fun a H=>?_;refine H.un gz rfl rfl rfl rfl (G5 true _) fun a H=>?_;refine H.ms 1 fun a H=>?_;refine H.move (H.wt rfl rfl rfl) (.inl rfl) rfl rfl rfl fun a H=>?_;refine H.bin (H.wt rfl rfl rfl) rfl rfl rfl rfl rfl (Q3 (n:Int) 0 false (decide_eq_false (by omega)) _ _ _) fun a H=>?_;refine H.pick gz rfl rfl rfl rfl rfl fun a H=>?_;refine H.ms 1 fun a H=>?_;refine H.move (H.wt rfl rfl rfl) (.inl rfl) rfl rfl rfl fun a H=>?_;refine H.bin (H.wt rfl rfl rfl) rfl rfl rfl rfl rfl (S0 (n:Int) 65536 false (decide_eq_false (by omega)) _ _ _) fun a H=>?_;refine H.pick gz rfl rfl rfl rfl rfl fun a H=>nt (H.condF rfl (Z3 (Z0 ?_)));refine H.rg 2 fun a H=>?_;refine H.cq 2 (J3u s n w) fun a H=>nt (wp_ret ?_);repeat with_reducible first |apply Z4 |apply Z5
 exact bodyPost_ret (V9 rfl _ _ _ (H.at_ 4 _ rfl) (H.at_ 5 _ rfl)) H.df ⟨rfl,rfl⟩
end
section
open Go.RowKit
def Z7y (s n b k:Nat):Nat×Nat:=
 if max (Y4 s b) 0≥min (Y4 s b+(n:Int)) (k:Int) then (0,0) else (Y6 b (max (Y4 s b) 0).toNat,(min (Y4 s b+(n:Int)) (k:Int)-max (Y4 s b) 0).toNat)
theorem J0c (s n b k:Nat) (hk:k≤65536):(Z7y s n b k).1≤4294967295∧(Z7y s n b k).2≤65536:=by
 unfold Z7y
 split
 ·exact⟨by decide,by decide⟩
 ·have:=Y1k b (max (Y4 s b) 0).toNat
  constructor
  ·show Y6 b _≤_;omega
  ·show (min _ _-_:Int).toNat≤_;omega
theorem J3x (s n b k:Nat) (hs:s≤4294967295) (hn:n≤65536) (hb:b≤4294967295) (hk:k≤65536) (w:World):Calls Tryz.prog 145 #[spV s n,spV b k] w fun e w'=>e = .returned (.tuple #[spV (Z7y s n b k).1 (Z7y s n b k).2,iz 0])∧w=w':=by
 go_enter Tryz.func145,Tryz.ntmps145
 refine Z9.start 53 [(0,spV s n),(1,spV b k)] rfl rfl ⟨rfl,rfl,trivial⟩ ?_;intro a0 H0;refine H0.rg 2 fun a1 H1=>nt ?_;refine H1.rg 1 fun a H=>?_;refine H.cq 1 (Y2m s n hs hn w) fun a H=>?_;refine H.ex (r:=iz s) 0 fun a H=>?_;refine H.ex (r:=iz n) 0 fun a H=>?_;refine H.ex (r:=iz 0) 3 fun a H=>nt ?_;replace H:=H.kp [1,6,7,8];refine H.rg 1 fun a H=>?_;refine H.cq 1 (Y2m b k hb hk w) fun a H=>?_;refine H.ex (r:=iz b) 0 fun a H=>?_;refine H.ex (r:=iz k) 0 fun a H=>?_;refine H.ex (r:=iz 0) 3 fun a H=>nt ?_;replace H:=H.kp [6,7,8,9,10,11];refine H.rg 1 fun a H=>?_;refine H.bn 1 (X8i 0 0 false rfl _ _ _) fun a H=>?_;refine H.move (H.wt rfl rfl rfl) (.inl rfl) rfl rfl rfl fun a H=>?_;refine H.bin (H.wt rfl rfl rfl) rfl rfl rfl rfl rfl (X8i 0 0 false rfl _ _ _) fun a H=>?_;refine H.pick gz rfl rfl rfl rfl rfl fun a H=>nt (H.condF rfl (Z3 (Z0 ?_)));have hd:=Y2l s b;obtain⟨d,hdd⟩:∃d,Y4 s b=d:=⟨_,rfl⟩;have KD:=Y1m s b (by omega) (by omega) w;have hm:Z7y s n b k=if max d 0≥min (d+(n:Int)) (k:Int) then (0,0) else (Y6 b (max d 0).toNat,(min (d+(n:Int)) (k:Int)-max d 0).toNat):=by unfold Z7y;rw[hdd]
 rw[hdd] at hd KD;refine H.rg 2 fun a H=>?_;refine H.cq 1 KD fun a H=>nt ?_;refine H.rg 1 fun a H=>?_;refine H.go gz rfl rfl _ (J3t rfl (H.ev rfl) (H.ev rfl)) fun a H=>?_;refine H.ms 2 fun a H=>?_;refine H.bn 1 (Q1q d (n:Int) (by omega) (by omega) _ _ _) fun a H=>?_;refine H.go gz rfl rfl _ (J3s rfl (H.ev rfl) (H.ev rfl)) fun a H=>?_;refine H.ms 2 fun a H=>nt ?_;obtain⟨fr,hfr⟩:∃fr:Nat,max d 0=(fr:Int):=⟨(max d 0).toNat,by omega⟩;obtain⟨t,ht⟩:∃t,min (d+(n:Int)) (k:Int)=t:=⟨_,rfl⟩;rw[hfr,ht] at H hm;replace H:=H.kp [9,13,14];have hfl:fr<2147483648:=by omega
 have htl:t≤65536:=by omega
 refine H.rg 2 fun a H=>?_;by_cases hc:t≤(fr:Int)
 ·refine H.bb 0 rfl rfl rfl rfl rfl rfl (Z6k _ _ true (by rw[decide_eq_true_iff];exact hc) _ _ _) rfl fun a H=>nt (H.condT rfl ?_)
  refine H.rg 2 fun a H=>nt (wp_ret ?_);repeat with_reducible first |apply Z4 |apply Z5
  rw[if_pos hc] at hm;rw[hm];exact bodyPost_ret (V9 rfl _ _ _ (H.at_ 4 _ rfl) (H.at_ 5 _ rfl)) H.df ⟨by show _=Ending.returned (.tuple #[spV 0 0,iz 0]);unfold spV;rw[Y9n],rfl⟩
 ·refine H.bb 0 rfl rfl rfl rfl rfl rfl (Z6k _ _ false (by rw[decide_eq_false_iff_not];exact hc) _ _ _) rfl fun a H=>nt (H.condF rfl (Z3 (Z0 ?_)))
  rw[if_neg hc,Int.toNat_natCast] at hm;rw[hm];obtain⟨l,hl⟩:∃l:Nat,t-(fr:Int)=(l:Int):=⟨(t-(fr:Int)).toNat,by omega⟩;rw[hl,Int.toNat_natCast];refine H.rg 2 fun a H=>?_;refine H.cq 2 (Y1l b fr (by omega) (by omega) w) fun a H=>?_;refine H.bn 0 (X5l t (fr:Int) (by omega) (by omega) _ _ _) fun a H=>?_;rw[hl] at H;refine H.cq 2 (J3u (Y6 b fr) l w) fun a H=>nt (wp_ret ?_);repeat with_reducible first |apply Z4 |apply Z5
  exact bodyPost_ret (V9 rfl _ _ _ (H.at_ 4 _ rfl) (H.at_ 5 _ rfl)) H.df ⟨rfl,rfl⟩
end
section
open Go.RowKit
def Y0m (d:Int):Nat:=(max d 0).toNat
def T1 (d:Int) (xs:List UInt8):List UInt8:=if max d 0≥min (d+(xs.length:Int)) 2048 then [] else (xs.drop (max d 0-d).toNat).take (min (d+(xs.length:Int)) 2048-max d 0).toNat
theorem J8h (d:Int) (xs:List UInt8) (h:T1 d xs≠[]):Y0m d+(T1 d xs).length≤2048:=by
 unfold T1 at h ⊢;unfold Y0m
 split
 ·next hc=>rw[if_pos hc] at h;exact absurd rfl h
 ·rw[List.length_take,List.length_drop]
  omega
theorem X5n (nx fr:Nat) (h:fr<2147483648):Y4 (Y6 nx fr) nx=fr:=by
 unfold Y4 Y6
 split<;>omega
theorem X2j (sq nx fr:Nat) (h0:0≤(fr:Int)-Y4 sq nx) (h1:(fr:Int)-Y4 sq nx<2147483648):Y4 (Y6 nx fr) sq=(fr:Int)-Y4 sq nx:=by
 unfold Y4 at *;unfold Y6
 split at h0<;>split<;>omega
theorem N9:(Tryz.prog.info? 104).map (·.size)=some 2:=by kernel_rfl
theorem Z7e (w:World):(zeroValue 104).run Tryz.prog w = .ok (.agg ([iz 0,Z2]:List Value).toArray) w:=by kernel_rfl
theorem X2k (nx sq:Nat) (vP:Value) (xs:List UInt8) (A:Option Addr) (c:Nat) (hx:nx≤4294967295) (hs:sq≤4294967295) (hn:xs.length≤65536) (hc:xs.length≤c) (w:World) (hr:RB w w.heap.size A xs):
  Calls Tryz.prog 124 #[.agg ([iz nx,vP]:List Value).toArray,iz sq, .slice A xs.length c] w fun e w'=>∃v,e = .returned v∧(∃(at_:Nat) (A':Option Addr) (c':Nat),v = .tuple #[iz at_, .slice A' (T1 (Y4 sq nx) xs).length c']∧(T1 (Y4 sq nx) xs).length≤c'∧(T1 (Y4 sq nx) xs≠[]→at_=Y0m (Y4 sq nx))∧RB w' w'.heap.size A' (T1 (Y4 sq nx) xs)∧Below w.heap.size w w'):=by
 go_enter Tryz.func124,Tryz.ntmps124
 refine Z9.start 58 [(0, .agg ([iz nx,vP]:List Value).toArray),(1,iz sq),(2, .slice A xs.length c)] rfl rfl ⟨rfl,rfl,rfl,trivial⟩ ?_;intro a0 H0;have O0:=X0.start w;refine rl ?_;refine H0.bx O0 2 (L:=[iz nx,vP]) fun a1 w1 O1 H1=>nt ?_;generalize hg:w.heap.size=g at O1 H1 ⊢;replace H1:=H1.kp [1,2,3];refine H1.rg 1 fun a H=>?_;refine H.ld 0 (J9 _ _ _ _ ((O1.get 0 rfl).get 0 _ rfl)) fun a H=>?_;refine H.cq 1 (Y5l nx 2048 hx (by decide) w1) fun a H=>?_;refine H.ex (r:=spV nx 2048) 0 fun a H=>?_;refine H.ex (r:=iz 0) 2 fun a H=>nt ?_;replace H:=H.kp [1,2,3,8];refine H.rg 2 fun a H=>?_;refine H.len gz rfl rfl rfl rfl Tryz.underlying31 fun a H=>?_;refine H.cq 1 (Y5l sq xs.length hs hn w1) fun a H=>?_;refine H.ex (r:=spV sq xs.length) 0 fun a H=>?_;refine H.ex (r:=iz 0) 2 fun a H=>nt ?_;replace H:=H.kp [1,2,3,8,10];obtain⟨m,hm⟩:∃m,Z7y sq xs.length nx 2048=m:=⟨_,rfl⟩;have hml:=J0c sq xs.length nx 2048 (by decide);have K:=J3x sq xs.length nx 2048 hs hn hx (by decide) w1;rw[hm] at K hml;refine H.rg 2 fun a H=>?_;refine H.cq 1 K fun a H=>?_;refine H.ex (r:=spV m.1 m.2) 0 fun a H=>?_;refine H.ex (r:=iz 0) 2 fun a H=>nt ?_;replace H:=H.kp [1,2,3,12];refine H.rg 1 fun a H=>?_;refine H.cq 1 (Y2m m.1 m.2 hml.1 hml.2 w1) fun a H=>?_;refine H.ex (r:=iz m.1) 0 fun a H=>?_;refine H.ex (r:=iz m.2) 0 fun a H=>?_;refine H.ex (r:=iz 0) 3 fun a H=>nt ?_;replace H:=H.kp [1,2,3,14,15];refine H.rg 2 fun a H=>?_;refine H.cq 1 (Y1m m.1 sq (by omega) (by omega) w1) fun a H=>nt ?_;replace H:=H.kp [1,2,3,14,15,17];have hd:=Y2l sq nx;unfold Z7y at hm;refine H.rg 1 fun a H=>?_;by_cases hcc:max (Y4 sq nx) 0≥min (Y4 sq nx+(xs.length:Int)) ((2048:Nat):Int)
 ·rw[if_pos hcc] at hm
  subst hm;have hw:T1 (Y4 sq nx) xs=[]:=by unfold T1;rw[if_pos (by omega)]
  refine H.bb 0 rfl rfl rfl rfl rfl rfl (Z7 _ _ true rfl _ _ _) rfl fun a H=>nt (H.condT rfl ?_);refine H.rg 2 fun a H=>nt (wp_ret ?_);repeat with_reducible first |apply Z4 |apply Z5
  refine bodyPost_ret (V9 rfl _ _ _ (H.at_ 6 _ rfl) (H.at_ 7 _ rfl)) H.df ⟨_,rfl,0,none,0, ?_, ?_,fun h=>absurd hw h, ?_,O1.bel⟩
  ·rw[hw];rfl
  ·rw[hw];exact Nat.le_refl _
  ·rw[hw];exact RB.nil
 ·rw[if_neg hcc] at hm
  obtain⟨fr,hfr⟩:∃fr:Nat,max (Y4 sq nx) 0=(fr:Int):=⟨(max (Y4 sq nx) 0).toNat,by omega⟩;have hm1:Y6 nx fr=m.1:=by rw[←hm,hfr];rfl
  have hm2:(min (Y4 sq nx+(xs.length:Int)) ((2048:Nat):Int)-max (Y4 sq nx) 0).toNat=m.2:=by rw[←hm]
  have hpos:m.2≠0:=by omega
  have e1:Y4 m.1 sq=(fr:Int)-Y4 sq nx:=by rw[←hm1];exact X2j sq nx fr (by omega) (by omega)
  have e2:Y4 m.1 nx=(fr:Int):=by rw[←hm1];exact X5n nx fr (by omega)
  obtain⟨lo,hlo⟩:∃lo:Nat,(fr:Int)-Y4 sq nx=(lo:Int):=⟨((fr:Int)-Y4 sq nx).toNat,by omega⟩;rw[e1,hlo] at H;have hw:T1 (Y4 sq nx) xs=(xs.drop lo).take m.2:=by
   unfold T1;rw[if_neg (by omega),show (max (Y4 sq nx) 0-Y4 sq nx).toNat=lo by omega,show (min (Y4 sq nx+(xs.length:Int)) 2048-max (Y4 sq nx) 0).toNat=m.2 from hm2]
  have hle:lo+m.2≤xs.length:=by omega
  have hlen:((xs.drop lo).take m.2).length=m.2:=by rw[List.length_take,List.length_drop];omega
  refine H.bb 0 rfl rfl rfl rfl rfl rfl (Z7 _ _ false (by rw[beq_eq_false_iff_ne];omega) _ _ _) rfl fun a H=>nt (H.condF rfl (Z3 (Z0 ?_)));have kd:=Y1m m.1 nx (by omega) (by omega);rw[e2] at kd;refine H.dq (X0 w g [(g,[iz nx,vP])]) (fun _ _ h hb=>h.call hb) O1 [1,2,3,14,15,17] rfl [ec 0 48 (iz m.1),ec 1 49 (pz g),ec 2 50 (iz nx),ec 3 51 (iz fr),ec 4 52 (.slice A xs.length c),ec 5 53 (iz lo),ec 6 54 (iz lo),ec 7 55 (iz m.2),ec 8 56 (iz ((lo+m.2:Nat):Int)),ec 9 57 (.slice (if c=lo then A else A.map (·.add lo)) (lo+m.2-lo) (c-lo)),ec 10 6 (iz fr),ec 11 7 (.slice (if c=lo then A else A.map (·.add lo)) (lo+m.2-lo) (c-lo))] rfl
   ⟨jm,jm,jl fun _ h=>h.li 0 0,jq fun w' _=>kd w',jm,jm,jm,jm,jb fun _=>Y0l lo m.2 (by omega) _ _ _,js2 fun _=>N0 A xs.length c lo (lo+m.2) (by omega) (by omega) hc _,jm,jm,trivial⟩ trivial ?_
  intro a2 w2 H2 _ O2;refine Z0 (wp_ret ?_);repeat with_reducible first |apply Z4 |apply Z5
  refine bodyPost_ret (V9 rfl _ _ _ (H2.at_ 6 _ rfl) (H2.at_ 7 _ rfl)) H2.df ⟨_,rfl,fr,if c=lo then A else A.map (·.add lo),c-lo, ?_, ?_,fun _=>?_, ?_,O2.bel⟩
  ·rw[hw,hlen,show lo+m.2-lo=m.2 by omega]
  ·rw[hw,hlen];omega
  ·unfold Y0m;omega
  ·rw[hw]
   exact((hr.next (hg▸O2.bel)).cut (by omega) hc).take m.2
end
section
open Go.RowKit
def Z1v (m:List (Option UInt8)) (i:Nat) (x:UInt8):List (Option UInt8):=if m[i]? = some none then m.set i (some x) else m
def P1 (m:List (Option UInt8)) (i:Nat):List UInt8→List (Option UInt8)
 |[]=>m
 |x::r=>P1 (Z1v m i x) (i+1) r
theorem Y7z (m:List (Option UInt8)) (i:Nat) (x:UInt8):(Z1v m i x).length=m.length:=by
 unfold Z1v
 split
 ·exact List.length_set
 ·rfl
theorem Z2e:∀(xs:List UInt8) (m:List (Option UInt8)) (i:Nat),(P1 m i xs).length=m.length
 |[],_,_=>rfl
 |x::r,m,i=>by rw[P1,Z2e r,Y7z]
theorem Y8a:∀(xs:List UInt8) (m:List (Option UInt8)) (i k:Nat) (x:UInt8),xs[k]? = some x→P1 m i (xs.take (k+1))=Z1v (P1 m i (xs.take k)) (i+k) x
 |[],_,_,_,_,h=>by simp at h
 |y::r,m,i,0,x,h=>by
  have h:y=x:=by simpa using h
  subst h;rw[List.take_succ_cons,List.take_zero,List.take_zero];rfl
 |y::r,m,i,k+1,x,h=>by
  rw[List.take_succ_cons,List.take_succ_cons,P1,P1,Y8a r (Z1v m i y) (i+1) k x (by simpa using h),Nat.add_assoc,Nat.add_comm 1 k]
def Y0b (m:List (Option UInt8)):List Value:=m.map fun o=>.bool o.isSome
def P2 (m:List (Option UInt8)):List Value:=m.map fun o=>bv (o.getD 0)
theorem X2l (m:List (Option UInt8)) (i:Nat) (x:UInt8):Y0b (m.set i (some x))=(Y0b m).set i (.bool true):=List.map_set
theorem Y5m (m:List (Option UInt8)) (i:Nat) (x:UInt8):P2 (m.set i (some x))=(P2 m).set i (bv x):=List.map_set
theorem Y1n {m:List (Option UInt8)}{i:Nat}{o:Option UInt8}(h:m[i]? = some o):(Y0b m)[i]? = some (.bool o.isSome):=by
 unfold Y0b;rw[List.getElem?_map,h];rfl
theorem X8j {m:List (Option UInt8)}{i:Nat}{o:Option UInt8}(h:m[i]? = some o):(P2 m)[i]? = some (bv (o.getD 0)):=by
 unfold P2;rw[List.getElem?_map,h];rfl
theorem Y5n (g o n c:Nat) (A:Option Addr) (w:World) (h:w.cell? ⟨g,o,none⟩=some (.slice A n c)):(Instr.loadAt 151 (.pointer (some ⟨g,o,none⟩))).run Tryz.prog w = .ok (.slice A n c) w:=by
 simp[go_sem,h]
theorem Z2f (b n c k:Nat) (hk:k<n) (w:World):(Instr.indexAt 151 (.slice (some ⟨b,0,none⟩) n c) (iz k)).run Tryz.prog w = .ok (.pointer (some ⟨b,k,none⟩)) w:=by
 have h:=U7 151 Tryz.underlying151 (fun _=>by kernel_rfl) b 0 n c k hk w;rw[Nat.zero_add] at h;exact h
theorem Z8w (b n c k:Nat) (hk:k<n) (w:World):(Instr.indexAt 31 (.slice (some ⟨b,0,none⟩) n c) (iz k)).run Tryz.prog w = .ok (.pointer (some ⟨b,k,none⟩)) w:=by
 have h:=U7 31 Tryz.underlying31 (fun _=>by kernel_rfl) b 0 n c k hk w;rw[Nat.zero_add] at h;exact h
theorem Y5o (g o:Nat) (v:UInt8) (u:Value) (w:World) (h:w.cell? ⟨g,o,none⟩=some u) (hf:w.frozen? ⟨g,o,none⟩=false):(Instr.storeAt 5 (.pointer (some ⟨g,o,none⟩)) (bv v)).run Tryz.prog w = .ok () (w.setCell ⟨g,o,none⟩ (bv v)):=by
 simp[go_sem,h,hf]
abbrev Z7z (gA gH g7 g6:Nat) (m:List (Option UInt8)) (tl:List (Nat×List Value)):List (Nat×List Value):=(gA,P2 m)::(gH,Y0b m)::(g7,[.slice (some ⟨gA,0,none⟩) 2048 2048])::(g6,[.slice (some ⟨gH,0,none⟩) 2048 2048])::tl
theorem Q4q (W:World) (B gA gH g7 g6:Nat) (tl:List (Nat×List Value)) (m:List (Option UInt8)) (hm:m.length=2048) (at_:Nat) (xs:List UInt8) (A:Option Addr) (c:Nat) (hfit:at_+xs.length≤2048) (hr:RB W B A xs) (w:World) (O:X0 W B (Z7z gA gH g7 g6 m tl) w):
  Calls Tryz.prog 147 #[iz at_, .slice A xs.length c,pz g6,pz g7] w fun e w'=>e = .returned (.tuple #[])∧X0 W B (Z7z gA gH g7 g6 (P1 m at_ xs) tl) w':=by
 go_enter Tryz.func147,Tryz.ntmps147
 refine Z9.start 34 [(0,iz at_),(1, .slice A xs.length c),(2,pz g6),(3,pz g7)] rfl rfl ⟨rfl,rfl,rfl,rfl,trivial⟩ ?_;intro a0 H0;refine H0.rg 1 fun a H=>?_;refine H.len gz rfl rfl rfl rfl Tryz.underlying31 fun a H=>?_;refine H.ms 1 fun a H=>nt ?_;replace H:=H.kp [0,2,3,8,9,10];refine wp_block ?_;refine Q7 xs.length (fun k a w'=>Z9 a 34 [(0,iz at_),(2,pz g6),(3,pz g7),(8, .slice A xs.length c),(9,iz xs.length),(10,iz k)]∧X0 W B (Z7z gA gH g7 g6 (P1 m at_ (xs.take k)) tl) w') ⟨H,by rw[List.take_zero];exact O⟩ ?_;clear H0 H O;rintro k a1 w1 hk ⟨H,O⟩;refine H.rg 0 fun a H=>?_;by_cases hlt:k<xs.length
 rotate_left
 ·refine H.bb 0 rfl rfl rfl rfl rfl rfl (Q3 _ _ false (by rw[decide_eq_false_iff_not];omega) _ _ _) rfl fun a H=>nt (wp_seq (H.condF rfl ?_))
  refine wp_exit ?_;repeat (with_reducible refine J7 ?_)
  refine X3 ?_;have:k=xs.length:=by omega
  subst this;rw[List.take_length] at O;exact bodyPost_end (results_none rfl _ _ _) H.df ⟨rfl,O⟩
 refine H.bb 0 rfl rfl rfl rfl rfl rfl (Q3 _ _ true (by rw[decide_eq_true_iff];omega) _ _ _) rfl fun a H=>nt (wp_seq (H.condT rfl ?_));refine Z3 (Z0 ?_);obtain⟨mk,hmk⟩:∃mk,P1 m at_ (xs.take k)=mk:=⟨_,rfl⟩;have hml:mk.length=2048:=by rw[←hmk,Z2e,hm]
 obtain⟨b,o,x,rfl,hbB,hx,hcell⟩:=hr.get hlt;have hnext:=Y8a xs m at_ k x hx;rw[hmk] at O hnext;replace H:=H.kp [0,2,3,8,9,10];refine Z8 (fun a w'=>Z9 a 34 [(0,iz at_),(2,pz g6),(3,pz g7),(8, .slice (some ⟨b,o,none⟩) xs.length c),(9,iz xs.length),(10,iz k)]∧X0 W B (Z7z gA gH g7 g6 (Z1v mk (at_+k) x) tl) w') ?_ ?_
 rotate_left
 ·rintro a w' ⟨H,O⟩
  refine H.rg 0 fun a H=>?_;refine H.bb 1 rfl rfl rfl rfl rfl rfl (E7 k (by omega) _ _ _) rfl fun a H=>nt ?_;exact⟨hlt,H.keep ⟨rfl,rfl,rfl,rfl,rfl,rfl,trivial⟩,by rw[hnext];exact O⟩
 refine wp_block ?_;refine H.rg 1 fun a H=>?_;refine H.index gz rfl rfl rfl rfl rfl (U7 31 Tryz.underlying31 (fun _=>by kernel_rfl) b o xs.length c k hlt _) fun a H=>?_;refine H.ld 2 (U3 _ _ _ _ ((T6 O.bel hbB).trans hcell)) fun a H=>nt ?_;obtain⟨od,hod⟩:∃od,mk[at_+k]? = some od:=⟨_,List.getElem?_eq_getElem (by omega)⟩;replace H:=H.kp [0,2,3,6,7,8,9,10];refine H.rg 0 fun a H=>?_;refine H.ld 2 (Y5n _ _ _ _ _ _ ((O.get 3 rfl).get 0 _ rfl)) fun a H=>?_;refine H.bn 0 (Y0l at_ k (by omega) _ _ _) fun a H=>?_;refine H.index gz rfl rfl rfl rfl rfl (Z2f gH 2048 2048 (at_+k) (by omega) _) fun a H=>?_;refine H.ld 0 (V0 _ _ _ _ ((O.get 1 rfl).get (at_+k) _ (Y1n hod))) fun a H=>?_;refine H.un gz rfl rfl rfl rfl (G5 od.isSome _) fun a H=>nt ?_;replace H:=H.kp [0,2,3,6,7,8,9,10,21];cases od with
 |some y=>
  refine H.condF rfl (Z3 (Z6 ⟨H.keep ⟨rfl,rfl,rfl,rfl,rfl,rfl,trivial⟩, ?_⟩));unfold Z1v;rw[if_neg (by rw[hod];simp)];exact O
 |none=>
  have hl1:Z1v mk (at_+k) x=mk.set (at_+k) (some x):=by unfold Z1v;rw[if_pos hod]
  rw[hl1];have j1:=Y1n hod;have j2:=X8j hod;refine H.condT rfl ?_;refine H.sg (fun w'=>X0 W B (Z7z gA gH g7 g6 mk tl) w') O.drew [0,2,3,6,7,8,9,10] [ec 0 22 (.slice (some ⟨gH,0,none⟩) 2048 2048),ec 1 23 (iz at_),ec 2 24 (iz k),ec 3 25 (iz ((at_+k:Nat):Int)),ec 4 26 (.slice (some ⟨gA,0,none⟩) 2048 2048),ec 5 27 (iz at_),ec 6 28 (iz k),ec 7 29 (iz ((at_+k:Nat):Int)),ec 8 30 (bv x),ec 9 31 (.pointer (some ⟨gH,at_+k,none⟩)),ec 11 32 (.pointer (some ⟨gA,at_+k,none⟩))] rfl ?_;refine St.sto 10 ⟨jl fun _ h=>Y5n _ _ _ _ _ _ ((h.get 3 rfl).get 0 _ rfl),jm,jm,jb fun _=>Y0l at_ k (by omega) _ _ _,jl fun _ h=>U8 _ _ _ _ _ _ ((h.get 2 rfl).get 0 _ rfl),jm,jm,jb fun _=>Y0l at_ k (by omega) _ _ _,jm,jI rfl rfl rfl rfl rfl rfl (Z2f gH 2048 2048 (at_+k) (by omega)),jI rfl rfl rfl rfl rfl rfl (Z8w gA 2048 2048 (at_+k) (by omega)),trivial⟩ ?_;intro a wu H _ Ou;obtain⟨c1,c2⟩:=(Ou.get 1 rfl) _ _ j1;refine⟨_,Q6 rfl (H.ev rfl) (H.ev rfl) (B7 _ _ _ _ _ c1 c2),nx0 (fun w'=>X0 W B ((gA,P2 mk)::(gH,Y0b (mk.set (at_+k) (some x)))::(g7,[.slice (some ⟨gA,0,none⟩) 2048 2048])::(g6,[.slice (some ⟨gH,0,none⟩) 2048 2048])::tl) w') [] [] ?_ ?_⟩
  ·rw[X2l]
   exact Ou.turn 1 rfl (X7 _ _ _ _) ((Ou.get 1 rfl).set _ _ (List.getElem?_eq_some_iff.1 j1).1)
  refine St.sto 12 ⟨jl fun _ h=>U8 _ _ _ _ _ _ ((h.get 2 rfl).get 0 _ rfl),jm,jm,jb fun _=>Y0l at_ k (by omega) _ _ _,jm,jI rfl rfl rfl rfl rfl rfl (Z8w gA 2048 2048 (at_+k) (by omega)),trivial⟩ ?_;intro a wu H _ Ou;obtain⟨c1,c2⟩:=(Ou.get 0 rfl) _ _ j2;refine⟨_,Q6 rfl (H.ev rfl) (H.ev rfl) (Y5o _ _ _ _ _ c1 c2),nx0 (fun w'=>X0 W B (Z7z gA gH g7 g6 (mk.set (at_+k) (some x)) tl) w') [] [] ?_ ?_⟩
  ·rw[Z7z,Y5m]
   exact Ou.turn 0 rfl (X7 _ _ _ _) ((Ou.get 0 rfl).set _ _ (List.getElem?_eq_some_iff.1 j2).1)
  refine St.fin trivial ?_;intro a w' H _ O;refine Z6 (Z0 ?_);exact⟨H.keep ⟨rfl,rfl,rfl,rfl,rfl,rfl,trivial⟩,O⟩
end
section
open Go.RowKit
def Z3v (w:World) (B:Nat) (AP:Option Addr) (ps:List (Nat×List UInt8)):Prop:=
 ∀k p,ps[k]? = some p→∃g o A c,AP=some ⟨g,o,none⟩∧g<B∧w.rangeAt g (o+k*2) [iz p.1, .slice A p.2.length c]∧RB w B A p.2
theorem Z3v.below {w w':World}{B:Nat}{AP:Option Addr}{ps:List (Nat×List UInt8)}(h:Z3v w B AP ps) (hb:Below B w w'):Z3v w' B AP ps:=by
 intro k p hk;obtain⟨g,o,A,c,h1,h2,h3,h4⟩:=h k p hk;exact⟨g,o,A,c,h1,h2,Y0j h3 hb h2,h4.below hb⟩
theorem Z3v.more {w:World}{B B':Nat}{AP:Option Addr}{ps:List (Nat×List UInt8)}(h:Z3v w B AP ps) (hb:B≤B'):Z3v w B' AP ps:=by
 intro k p hk;obtain⟨g,o,A,c,h1,h2,h3,h4⟩:=h k p hk;exact⟨g,o,A,c,h1,Nat.lt_of_lt_of_le h2 hb,h3,h4.more hb⟩
def Z4u (nx:Nat) (m:List (Option UInt8)) (ps:List (Nat×List UInt8)):List (Option UInt8):=ps.foldl (fun m p=>P1 m (Y4 p.1 nx).toNat p.2) m
theorem J0d {nx:Nat}{m:List (Option UInt8)}{ps:List (Nat×List UInt8)}{k:Nat}{p:Nat×List UInt8}(h:ps[k]? = some p):Z4u nx m (ps.take (k+1))=P1 (Z4u nx m (ps.take k)) (Y4 p.1 nx).toNat p.2:=by
 unfold Z4u;rw[List.take_add_one,h,List.foldl_append];rfl
theorem Z3f (nx:Nat):∀(ps:List (Nat×List UInt8)) (m:List (Option UInt8)),(Z4u nx m ps).length=m.length
 |[],_=>rfl
 |p::r,m=>by
  show (Z4u nx (P1 m (Y4 p.1 nx).toNat p.2) r).length=_;rw[Z3f nx r,Z2e]
def Y7j (base T:Nat) (L:List Value) (v:Value) (w:World):Prop:=∃g,v = .slice (some ⟨g,0,none⟩) L.length L.length∧base≤g∧g<w.heap.size∧X5 w g L∧Z3z w g T
theorem Y7j.below {base T:Nat}{L:List Value}{v:Value}{w w':World}(hb:Below w.heap.size w w') (h:Y7j base T L v w):Y7j base T L v w':=by
 obtain⟨g,h1,h2,h3,h4,h5⟩:=h;exact⟨g,h1,h2,Nat.lt_of_lt_of_le h3 hb.size,h4.below hb h3,h5.below hb⟩
theorem Y7j.kept {base T:Nat}{L:List Value}{v:Value}{w w':World}{r:Option Nat}(hg:w.grownBy w' r) (hr:∀k,r=some k→k<base) (h:Y7j base T L v w):Y7j base T L v w':=by
 obtain⟨g,h1,h2,h3,h4,h5⟩:=h;have hne:some g≠r:=fun e=>by have:=hr g e.symm;omega
 exact⟨g,h1,h2,Nat.lt_of_lt_of_le h3 hg.size,h4.kept hg h3 hne,h5.grown hg hne⟩
theorem Q1s {w:World}{g g' T T':Nat}(h:Z3z w g T) (h':Z3z w g' T') (hT:Nat.beq T T'=false):g≠g':=by
 rintro rfl;obtain⟨l,fr,h⟩:=h;obtain⟨l',fr',h'⟩:=h';rw[h] at h';injection h' with h'
 injection h' with _ h' _
 subst h';rw[Nat.beq_refl] at hT;cases hT
theorem Y8b {P:Program}{o:Oper}{a:Act}{w:World}{x:Operand}{xs:Array Operand}{ats:Array TypeId}{f:FuncId}{cap vs:List Value}(ho:o.op = .call { callee:=.value x,args:=xs,argTypes:=ats }) (hx:a.eval x = .func (.func f) #[] cap.toArray) (hv:xs.map a.eval=vs.toArray)
  (hen:∀(args:Array Value) (w:World),(callFunc f args).run P w = .ok (.enter f args) w):(execOp a.eval o).run P w = .ok (.enter f (vs++cap).toArray) w:=by
 unfold execOp;simp only[ho,resolve,Deferred.ofValue,hx,hv,Sem.run_bind,Sem.run_pure,Result.andThen_ok,invoke,hen];simp
theorem Z9.cf {ops:Array Oper}{rest:List Oper}{o:Oper}{a:Act}{w:World}{Q:Exit→Act→World→Prop}{n:Nat}{l:List (Nat×Value)}(H:Z9 a n l) {d:Nat}{f:FuncId}{x:Operand}{xs:Array Operand}{ats:Array TypeId}{vs cap:List Value}{R:Value→World→Prop}(hc:Calls Tryz.prog f (vs++cap).toArray w fun e w'=>∃v,e = .returned v∧R v w') (h:∀a' v w',R v w'→Z9 a' n ((d,v)::l)→wpList Tryz.prog ops Q rest a' w')
  (ho:o.op = .call { callee:=.value x,args:=xs,argTypes:=ats }:=by rfl) (hd:o.dst=some d:=by rfl) (hn:Nat.blt d n=true:=by rfl) (hg:o.guard=none:=by rfl) (hf:W1 l x=some (.func (.func f) #[] cap.toArray):=by rfl) (hx:Y1f l xs.toList=some vs:=by rfl)
  (hen:∀(args:Array Value) (w:World),(callFunc f args).run Tryz.prog w = .ok (.enter f args) w:=by exact fun _ _=>by kernel_rfl):wpList Tryz.prog ops Q (o::rest) a w:=by
 refine Z7v (gz hg) d hd f (vs++cap).toArray (Y8b ho (H.ev hf) ?_ hen) R hc (fun v w' hR=>h _ v w' hR (H.put hn v));rw[←H.evs hx,←Array.toList_map,Array.toArray_toList]
section
variable {ops:Array Oper}{Q:Exit→Act→World→Prop}{n:Nat}{fixed:List (Nat×Value)}{es:List Y7}{F:World→Prop}{done:List Nat}{o:Oper}{d:Nat}
theorem St.cf (h:Nat) {f:FuncId}{x:Operand}{xs:Array Operand}{ats:Array TypeId}{vs cap:List Value}{R:World→Value→World→Prop}(hl:Z0h ops Q n fixed F es done es) (hc:∀w,F w→Calls Tryz.prog f (vs++cap).toArray w fun e w'=>∃v,e = .returned v∧R w v w') (hn:∀w v w',F w→R w v w'→Nx ops Q n fixed es done h d v w w')
  (ho:ops[h]? = some o:=by rfl) (hp:o.op = .call { callee:=.value x,args:=xs,argTypes:=ats }:=by rfl) (hd:o.dst=some d:=by rfl) (hg:okG ops (fixed++K8 (D4 ops h) es) o=true:=by rfl) (hf:W1 (fixed++K8 (D4 ops h) es) x=some (.func (.func f) #[] cap.toArray):=by rfl) (hx:Y1f (fixed++K8 (D4 ops h) es) xs.toList=some vs:=by rfl)
  (hen:∀(args:Array Value) (w:World),(callFunc f args).run Tryz.prog w = .ok (.enter f args) w:=by exact fun _ _=>by kernel_rfl) (hB:stB ops n fixed es done h=true:=by kernel_rfl) (hN:Nat.ble ops.size 1000=true:=by kernel_rfl) (hback:Y5f ops=true:=by kernel_rfl)
  (hF:es.all Z1y=true∨∀w w',F w→Below w.heap.size w w'→F w':=by exact .inl rfl) (hst:D2 es:=by exact trivial):St ops Q n fixed es F done:=by
 refine X8e h (Array.getElem?_eq_some_iff.1 ho).1 (Z6i hback) hB hN hF hst hl ?_;intro o' K a w ho' H _ hFw hK _;rw[ho] at ho';injection ho' with ho'
 subst ho';refine D0 ho (Z0g H hg) d hd f _ (Y8b hp (H.ev hf) ?_ hen) _ (hc w hFw) fun v w' hR=>hK d v w' hd (hn w v w' hFw hR);rw[←H.evs hx,←Array.toList_map,Array.toArray_toList]
theorem km {t e base k:Nat}{z:Value}{L:List Value}{x y:Operand}(ht:Tryz.prog.underlying t=some (.slice e)) (hi:(Tryz.prog.info? e).map (fun i=>(i.zero,i.size,i.bytes))=some (some z,1,1)) (hz:z.cells = #[z]) (hL:L=List.replicate k z) (hk:k≤1000000) (hb:∀w,F w→base≤w.heap.size)
  {i s:Nat}(ho:ops[i]? = some o:=by rfl) (hp:o.op = .makeSlice t x y:=by rfl) (hd:o.dst=some s:=by rfl) (hg:okG ops (fixed++K8 (D4 ops i) es) o=true:=by rfl) (hx:x = .const (iz k):=by rfl) (hy:y = .const (iz k):=by rfl):Z1z ops Q n fixed F es (er i s [] (Y7j base e L)):=
 kx (t:=er i s [] (Y7j base e L)) (fun a w _ _ hF=>by
  obtain⟨i,hi0,hz0,hz1,hz2⟩:=info_parts (P:=Tryz.prog) hi;have hr:=run_make (P:=Tryz.prog) w t e i z ht hi0 hz0 .i64 .i64 (k:Int) (k:Int) (by omega) (Int.le_refl _) (by rw[hz2];omega) (by omega);rw[Int.toNat_natCast,hz1,Nat.mul_one,hz] at hr;have hC:(madeCells #[z] k).toList=L:=by rw[toList_madeCells_one,hL]
  refine⟨.slice (some ⟨w.heap.size,0,none⟩) k k,w.alloc (.cells (madeCells #[z] k) e), ?_,⟨w.heap.size, ?_,hb w hF,T7 _ _, ?_,⟨_,_,heap_alloc_new w _⟩⟩,G0 _ _⟩
  ·unfold execOp
   simp only[hp,hx,hy,Act.eval,Sem.run_bind,hr,Result.andThen_ok,Sem.run_pure]
  ·rw[hL,List.length_replicate]
  ·have:=X5.of_heap (l:=L) (T:=e) (w:=w.alloc (.cells (madeCells #[z] k) e)) (g:=w.heap.size) (by rw[heap_alloc_new,←hC])
   exact this) ho hd hg
end
end
section
open Go.RowKit
theorem Y8c:(Tryz.prog.info? 153).map (·.size)=some 2:=by kernel_rfl
theorem J0e (w:World):(zeroValue 153).run Tryz.prog w = .ok (.agg ([iz 0,Z2]:List Value).toArray) w:=by kernel_rfl
theorem Z8x (g o n c:Nat) (A:Option Addr) (w:World) (h:w.cell? ⟨g,o,none⟩=some (.slice A n c)):(Instr.loadAt 102 (.pointer (some ⟨g,o,none⟩))).run Tryz.prog w = .ok (.slice A n c) w:=by
 simp[go_sem,h]
theorem Y8d (g o n c:Nat) (A:Option Addr) (u:Value) (w:World) (h:w.cell? ⟨g,o,none⟩=some u) (hf:w.frozen? ⟨g,o,none⟩=false):(Instr.storeAt 151 (.pointer (some ⟨g,o,none⟩)) (.slice A n c)).run Tryz.prog w = .ok () (w.setCell ⟨g,o,none⟩ (.slice A n c)):=by
 simp[go_sem,h,hf]
theorem X5o {P:Program}{fn:Func}{p q:Tmp}{T U:TypeId}(h:fn.results = #[.cell p T, .cell q U]) (tmps:Array Value) {u v:Value}{x y:Addr}{w:World}(hp:tmps.getD p undef = .pointer (some x)) (hq:tmps.getD q undef = .pointer (some y)) (h1:(loadVar T x).run P w = .ok u w) (h2:(loadVar U y).run P w = .ok v w):(results fn tmps).run P w = .ok (.tuple #[u,v]) w:=by
 have hp':tmps[p]?.getD undef = .pointer (some x):=by simpa using hp
 have hq':tmps[q]?.getD undef = .pointer (some y):=by simpa using hq
 simp[results,h,hp',hq',asAddr,h1,h2]
theorem J3y (g o n c:Nat) (A:Option Addr) (w:World) (h:w.cell? ⟨g,o,none⟩=some (.slice A n c)):(loadVar 151 ⟨g,o,none⟩).run Tryz.prog w = .ok (.slice A n c) w:=by
 simp[go_sem,h]
theorem J3z (g o n c:Nat) (A:Option Addr) (w:World) (h:w.cell? ⟨g,o,none⟩=some (.slice A n c)):(loadVar 31 ⟨g,o,none⟩).run Tryz.prog w = .ok (.slice A n c) w:=by
 simp[go_sem,h]
theorem J4a {W w:World}{B:Nat}{bs:List (Nat×List Value)}(h:X0 W B bs w) {q:Nat}{L:List Value}(hB:B≤q) (hlt:q<w.heap.size) (hne:∀p∈bs,p.1≠q) (hC:X5 w q L):X0 W B ((q,L)::bs) w:=by
 refine⟨h.bel,h.le, ?_,fun p hp=>?_⟩
 ·rw[List.map_cons,List.nodup_cons]
  exact⟨fun hm=>by obtain⟨p,hp,e⟩:=List.mem_map.1 hm;exact hne p hp e,h.nd⟩
 ·rcases List.mem_cons.1 hp with rfl |hp
  ·exact⟨hB,hlt,hC⟩
  ·exact h.mem p hp
def B8:List (Option UInt8):=List.replicate 2048 none
theorem Y8e:(Tryz.prog.info? 4).map (fun i=>(i.zero,i.size,i.bytes))=some (some (.bool false),1,1):=by kernel_rfl
theorem X5p:Y0b B8=List.replicate 2048 (.bool false):=List.map_replicate
theorem X0b:P2 B8=List.replicate 2048 (bv 0):=List.map_replicate
theorem Z8y (m:List (Option UInt8)):(Y0b m).length=m.length:=List.length_map _
theorem X2m (m:List (Option UInt8)):(P2 m).length=m.length:=List.length_map _
theorem J0f (nq:Nat) (AP:Option Addr) (cP:Nat) (ps:List (Nat×List UInt8)) (at_:Nat) (xs:List UInt8) (A:Option Addr) (c:Nat) (w:World) (hx:nq≤4294967295) (hl:ps.length≤100000) (hP:Z3v w w.heap.size AP ps) (hps:∀p∈ps,p.1≤4294967295∧0≤Y4 p.1 nq∧Y4 p.1 nq+(p.2.length:Int)≤2048) (hr:RB w w.heap.size A xs) (hfit:at_+xs.length≤2048):
  Calls Tryz.prog 125 #[.agg ([iz nq, .slice AP ps.length cP]:List Value).toArray,iz at_, .slice A xs.length c] w fun e w'=>∃v,e = .returned v∧∃gH gA,v = .tuple #[.slice (some ⟨gH,0,none⟩) 2048 2048, .slice (some ⟨gA,0,none⟩) 2048 2048]∧X0 w w.heap.size [(gA,P2 (P1 (Z4u nq B8 ps) at_ xs)),(gH,Y0b (P1 (Z4u nq B8 ps) at_ xs))] w':=by
 go_enter Tryz.func125,Tryz.ntmps125
 refine Z9.start 37 [(0, .agg ([iz nq, .slice AP ps.length cP]:List Value).toArray),(1,iz at_),(2, .slice A xs.length c)] rfl rfl ⟨rfl,rfl,rfl,trivial⟩ ?_;intro a0 H0;have O0:=X0.start w;refine rl ?_;refine H0.bx O0 0 (L:=[iz nq, .slice AP ps.length cP]) fun a w1 O1 H=>?_;generalize hg3:w.heap.size=g3 at O1 H hP hr ⊢;refine H.any (w':=w1.alloc (.cells #[Z2] 151)) gz rfl rfl (pz w1.heap.size) (by intro cs b h;cases h) (by kernel_rfl) (by kernel_rfl) fun a H=>?_;have O2:=O1.alloc (G0 w1 (.cells #[Z2] 151)) (by simp) (L:=[Z2]) (X5.of_heap (heap_alloc_new w1 _));generalize w1.alloc (.cells #[Z2] 151)=w2 at O2 H;generalize w1.heap.size=g6 at O2 H;refine H.any (w':=w2.alloc (.cells #[Z2] 31)) gz rfl rfl (pz w2.heap.size) (by intro cs b h;cases h) (by kernel_rfl) (by kernel_rfl) fun a H=>nt ?_;have O3:=O2.alloc (G0 w2 (.cells #[Z2] 31)) (by simp) (L:=[Z2]) (X5.of_heap (heap_alloc_new w2 _));have hg6:g6<w2.heap.size:=O2.lt 0 rfl;generalize w2.alloc (.cells #[Z2] 31)=w3 at O3 H;generalize w2.heap.size=g7 at O3 H hg6;have hg3':g3≤g6:=O3.ge 1 rfl;replace H:=H.kp [1,2,3,6,7];refine H.sg (fun w'=>X0 w g3 [(g7,[Z2]),(g6,[Z2]),(g3,[iz nq, .slice AP ps.length cP])] w') O3.drew [1,2,3,6,7] [er 0 11 [] (Y7j (g7+1) 4 (Y0b B8)),er 1 12 [] (Y7j (g7+1) 5 (P2 B8))] rfl ?_;refine St.sto 2 ⟨km Tryz.underlying151 Y8e rfl X5p (by decide) (fun _ h=>h.lt 0 rfl),km Tryz.underlying31 J4 rfl X0b (by decide) (fun _ h=>h.lt 0 rfl),trivial⟩ ?_ (hF:=.inr fun _ _ h hb=>h.call hb) (hst:=⟨fun _ _ _ hb h=>h.below hb,fun _ _ _ hb h=>h.below hb,trivial⟩);have l1:(Y0b B8).length=2048:=by rw[X5p,List.length_replicate]
 have l2:(P2 B8).length=2048:=by rw[X0b,List.length_replicate]
 rintro a wu H ⟨⟨gH,e1,q1,q2,q3,q4⟩,_⟩ Ou;rw[l1] at e1;obtain⟨c1,c2⟩:=(Ou.get 1 rfl) 0 _ rfl;refine⟨_,Q6 rfl (H.ev rfl) e1 (Y8d _ _ _ _ _ _ _ c1 c2),nx0 (fun w'=>∃gH,g7+1≤gH∧Z3z w' gH 4∧X0 w g3 [(gH,Y0b B8),(g7,[Z2]),(g6,[.slice (some ⟨gH,0,none⟩) 2048 2048]),(g3,[iz nq, .slice AP ps.length cP])] w') [] [0] ⟨gH,q1,q4.set _ _, ?_⟩ ?_ (hk:=⟨fun _ h=>h.kept (X7 _ _ _ _) (fun k e=>by injection e with e;omega),trivial⟩)⟩
 ·refine(J4a Ou (by omega) q2 ?_ q3).turn 2 rfl (X7 _ _ _ _) ((Ou.get 1 rfl).set 0 _ (by decide))
  intro p hp;simp only[List.mem_cons,List.not_mem_nil,or_false] at hp;rcases hp with rfl |rfl |rfl<;>(show _≠gH;omega)
 refine St.sto 3 ⟨km Tryz.underlying31 J4 rfl X0b (by decide) (fun _ ⟨_,h1,_,h⟩=>by have:=h.lt 0 rfl;omega),trivial⟩ ?_ (hF:=.inr fun _ _ ⟨gH,h1,h2,h⟩ hb=>⟨gH,h1,h2.below hb,h.call hb⟩) (hst:=⟨fun _ _ _ hb h=>h.below hb,trivial⟩);clear e1 q1 q2 q3 q4 c1 c2 Ou H;rintro a wu H ⟨⟨gA,e1,q1,q2,q3,q4⟩,_⟩ ⟨gH,p1,p2,Ou⟩;rw[l2] at e1;have hne:=Q1s p2 q4 rfl;obtain⟨c1,c2⟩:=(Ou.get 1 rfl) 0 _ rfl;refine⟨_,Q6 rfl (H.ev rfl) e1 (Z9r _ _ _ _ _ _ _ c1 c2),nx0 (fun w'=>∃gH gA,X0 w g3 (Z7z gA gH g7 g6 B8 [(g3,[iz nq, .slice AP ps.length cP])]) w') [] [1] ⟨gH,gA, ?_⟩ ?_⟩
 ·refine(J4a Ou (by omega) q2 ?_ q3).turn 2 rfl (X7 _ _ _ _) ((Ou.get 1 rfl).set 0 _ (by decide))
  intro p hp;simp only[List.mem_cons,List.not_mem_nil,or_false] at hp;rcases hp with rfl |rfl |rfl |rfl<;>(show _≠gA;omega)
 refine St.fin trivial ?_;clear e1 q1 q2 q3 q4 c1 c2 Ou H p1 p2 hne;rintro a w4 H _ ⟨gH,gA,O4⟩;refine Z0 ?_;replace H:=H.kp [1,2,3,6,7];refine H.rg 0 fun a H=>?_;refine H.any (w':=w4) gz rfl rfl (.func (.func 147) #[] #[pz g6,pz g7]) (by intro cs b h;cases h) (by kernel_rfl) (by kernel_rfl) fun a H=>?_;refine H.ms 1 fun a H=>nt ?_;refine H.rg 1 fun a H=>?_;refine H.ld 0 (Z8x _ _ _ _ _ _ ((O4.get 4 rfl).get 1 _ rfl)) fun a H=>?_;refine H.len gz rfl rfl rfl rfl Tryz.underlying102 fun a H=>?_;refine H.ms 1 fun a H=>nt ?_;replace H:=H.kp [1,2,3,6,7,8,15,16,17];have hn0:B8.length=2048:=List.length_replicate;refine wp_block ?_;refine Q7 ps.length (fun k a w'=>Z9 a 37 [(1,iz at_),(2, .slice A xs.length c),(3,pz g3),(6,pz g6),(7,pz g7),(8, .func (.func 147) #[] #[pz g6,pz g7]),(15, .slice AP ps.length cP),(16,iz ps.length),(17,iz k)]∧X0 w g3 (Z7z gA gH g7 g6 (Z4u nq B8 (ps.take k)) [(g3,[iz nq, .slice AP ps.length cP])]) w') ⟨H,by rw[List.take_zero];exact O4⟩ ?_;clear H O0 O1 O2 O3 O4;rintro k a w5 hk ⟨H,O5⟩;refine H.rg 0 fun a H=>?_;by_cases hlt:k<ps.length
 rotate_left
 ·refine H.bb 0 rfl rfl rfl rfl rfl rfl (Q3 _ _ false (by rw[decide_eq_false_iff_not];omega) _ _ _) rfl fun a H=>nt (wp_seq (H.condF rfl ?_))
  refine wp_exit ?_;repeat (with_reducible refine J7 ?_)
  refine X3 (Z0 ?_);have:k=ps.length:=by omega
  subst this;rw[List.take_length] at O5;refine H.rg 3 fun a H=>?_;refine H.cf (vs:=[iz at_, .slice A xs.length c]) (cap:=[pz g6,pz g7]) (R:=fun _ w'=>X0 w g3 (Z7z gA gH g7 g6 (P1 (Z4u nq B8 ps) at_ xs) [(g3,[iz nq, .slice AP ps.length cP])]) w') ((Q4q w g3 gA gH g7 g6 [(g3,[iz nq, .slice AP ps.length cP])] (Z4u nq B8 ps) (by rw[Z3f,hn0]) at_ xs A c hfit hr w5 O5).mono fun _ _ h=>⟨_,h.1,h.2⟩) ?_;intro a _ w6 O6 H;refine nt ?_;obtain⟨mm,hmm⟩:∃mm,P1 (Z4u nq B8 ps) at_ xs=mm:=⟨_,rfl⟩;rw[hmm] at O6 ⊢;refine H.sg (fun w'=>X0 w g3 (Z7z gA gH g7 g6 mm [(g3,[iz nq, .slice AP ps.length cP])]) w') O6.drew [6,7] [ec 0 35 (.slice (some ⟨gH,0,none⟩) 2048 2048),ec 1 36 (.slice (some ⟨gA,0,none⟩) 2048 2048)] rfl ?_;refine St.sto 2 ⟨jl fun _ h=>Y5n _ _ _ _ _ _ ((h.get 3 rfl).get 0 _ rfl),jl fun _ h=>U8 _ _ _ _ _ _ ((h.get 2 rfl).get 0 _ rfl),trivial⟩ ?_;intro a wu H _ Ou;obtain⟨c1,c2⟩:=(Ou.get 3 rfl) 0 _ rfl;refine⟨_,Q6 rfl (H.ev rfl) (H.ev rfl) (Y8d _ _ _ _ _ _ _ c1 c2),nx0 (fun w'=>X0 w g3 (Z7z gA gH g7 g6 mm [(g3,[iz nq, .slice AP ps.length cP])]) w') [] [] (Ou.turn 3 rfl (X7 _ _ _ _) ((Ou.get 3 rfl).set 0 _ Nat.zero_lt_one)) ?_⟩;refine St.sto 3 ⟨jl fun _ h=>U8 _ _ _ _ _ _ ((h.get 2 rfl).get 0 _ rfl),trivial⟩ ?_;intro a wu H _ Ou;obtain⟨c1,c2⟩:=(Ou.get 2 rfl) 0 _ rfl;refine⟨_,Q6 rfl (H.ev rfl) (H.ev rfl) (Z9r _ _ _ _ _ _ _ c1 c2),nx0 (fun w'=>X0 w g3 (Z7z gA gH g7 g6 mm [(g3,[iz nq, .slice AP ps.length cP])]) w') [] [] (Ou.turn 2 rfl (X7 _ _ _ _) ((Ou.get 2 rfl).set 0 _ Nat.zero_lt_one)) ?_⟩;refine St.fin trivial ?_;intro a w7 H _ O7;refine Z0 (wp_ret ?_);repeat with_reducible first |apply Z4 |apply Z5
  exact bodyPost_ret (X5o rfl _ (H.at_ 6 _ rfl) (H.at_ 7 _ rfl) (J3y _ _ _ _ _ _ ((O7.get 3 rfl).get 0 _ rfl)) (J3z _ _ _ _ _ _ ((O7.get 2 rfl).get 0 _ rfl))) H.df ⟨_,rfl,gH,gA,rfl,O7.sub (List.take_sublist 2 (Z7z gA gH g7 g6 mm [(g3,[iz nq, .slice AP ps.length cP])]))⟩
 refine H.bb 0 rfl rfl rfl rfl rfl rfl (Q3 _ _ true (by rw[decide_eq_true_iff];omega) _ _ _) rfl fun a H=>nt (wp_seq (H.condT rfl ?_));refine Z3 (Z0 ?_);obtain⟨p,hp⟩:∃p,ps[k]? = some p:=⟨_,List.getElem?_eq_getElem hlt⟩;obtain⟨hp1,hp2,hp3⟩:=hps p (List.mem_of_getElem? hp);obtain⟨g,o,A',c',hAP,hgB,hrg,hrp⟩:=hP k p hp;obtain⟨mk,hmk⟩:∃mk,Z4u nq B8 (ps.take k)=mk:=⟨_,rfl⟩;have hml:mk.length=2048:=by rw[←hmk,Z3f,hn0]
 have hnext:=J0d (nx:=nq) (m:=B8) hp;obtain⟨d,hd⟩:∃d:Nat,Y4 p.1 nq=(d:Int):=⟨(Y4 p.1 nq).toNat,by omega⟩;rw[hmk] at O5 hnext;rw[hd,Int.toNat_natCast] at hnext;replace H:=H.keep (l':=[(1,iz at_),(2, .slice A xs.length c),(3,pz g3),(6,pz g6),(7,pz g7),(8, .func (.func 147) #[] #[pz g6,pz g7]),(15, .slice (some ⟨g,o,none⟩) ps.length cP),(16,iz ps.length),(17,iz k)]) ⟨rfl,rfl,rfl,rfl,rfl,rfl,by rw[←hAP];rfl,rfl,rfl,trivial⟩;have kd:=fun w=>Y1m p.1 nq (by omega) (by omega) w;simp only[hd] at kd;refine Z8 (fun a w'=>Z9 a 37 [(1,iz at_),(2, .slice A xs.length c),(3,pz g3),(6,pz g6),(7,pz g7),(8, .func (.func 147) #[] #[pz g6,pz g7]),(15, .slice AP ps.length cP),(16,iz ps.length),(17,iz k)]∧X0 w g3 (Z7z gA gH g7 g6 (P1 mk d p.2) [(g3,[iz nq, .slice AP ps.length cP])]) w') ?_ ?_
 rotate_left
 ·rintro a w' ⟨H,O⟩
  refine H.rg 0 fun a H=>?_;refine H.bb 1 rfl rfl rfl rfl rfl rfl (E7 k (by omega) _ _ _) rfl fun a H=>nt ?_;exact⟨hlt,H.keep ⟨rfl,rfl,rfl,rfl,rfl,rfl,rfl,rfl,rfl,trivial⟩,by rw[hnext];exact O⟩
 refine wp_block ?_;refine H.rg 0 fun a H=>?_;refine H.index gz rfl rfl rfl rfl rfl (Z3u 102 Tryz.underlying102 2 (fun _=>by kernel_rfl) g o ps.length cP k hlt _) fun a H=>?_;refine H.ld 0 (run_loadAt_mid w5 g (o+k*2) 153 _ _ (Y0j hrg O5.bel hgB) Tryz.underlying153 rfl Y8c) fun a H=>?_;refine H.nk O5 0 (L:=[iz p.1, .slice A' p.2.length c']) rfl J0e Y8c fun a w6 hb6 O6 _ H=>nt ?_;generalize w5.heap.size=gp at O6 H;replace H:=H.kp [1,2,3,6,7,8,10,15,16,17];have O6':=O6.perm (bs':=Z7z gA gH g7 g6 mk [(gp,[iz p.1, .slice A' p.2.length c']),(g3,[iz nq, .slice AP ps.length cP])]) (List.perm_middle (l₁:=[(gA,P2 mk),(gH,Y0b mk),(g7,[Value.slice (some ⟨gA,0,none⟩) 2048 2048]),(g6,[Value.slice (some ⟨gH,0,none⟩) 2048 2048])])).symm;refine H.sg (fun w'=>X0 w g3 (Z7z gA gH g7 g6 mk [(gp,[iz p.1, .slice A' p.2.length c']),(g3,[iz nq, .slice AP ps.length cP])]) w') O6'.drew [1,2,3,6,7,8,10,15,16,17] [ec 0 21 (.func (.func 147) #[] #[pz g6,pz g7]),ec 1 22 (pz gp),ec 2 23 (iz p.1),ec 3 24 (pz g3),ec 4 25 (iz nq),ec 5 26 (iz d),ec 6 27 (.pointer (some ⟨gp,1,none⟩)),ec 7 28 (.slice A' p.2.length c')] rfl ?_;refine St.cf 8 (vs:=[iz d, .slice A' p.2.length c']) (cap:=[pz g6,pz g7]) (R:=fun _ v w'=>v = .tuple #[]∧X0 w g3 (Z7z gA gH g7 g6 (P1 mk d p.2) [(gp,[iz p.1, .slice A' p.2.length c']),(g3,[iz nq, .slice AP ps.length cP])]) w') ⟨jm,jm,jl fun _ h=>h.li 4 0,jm,jl fun _ h=>h.li 5 0,jq fun w' _=>kd w',jm,jl fun _ h=>U8 _ _ _ _ _ _ ((h.get 4 rfl).get 1 _ rfl),trivial⟩ (fun wy h=>(Q4q w g3 gA gH g7 g6 _ mk hml d p.2 A' c' (by omega) hrp wy h).mono fun _ _ h=>⟨_,h.1,rfl,h.2⟩) ?_;rintro wy _ wz _ ⟨rfl,Oz⟩;refine nx (fun w'=>X0 w g3 (Z7z gA gH g7 g6 (P1 mk d p.2) [(gp,[iz p.1, .slice A' p.2.length c']),(g3,[iz nq, .slice AP ps.length cP])]) w') [] [] Oz ?_;refine St.fin trivial ?_;intro a w7 H _ O7;refine Z6 (Z0 ?_);exact⟨H.keep ⟨rfl,rfl,rfl,rfl,rfl,rfl,by rw[hAP];rfl,rfl,rfl,trivial⟩,O7.sub (((((List.sublist_cons_self _ _).cons_cons _).cons_cons _).cons_cons _).cons_cons _)⟩
end
section
open Go.RowKit
inductive Z0t (m:List (Option UInt8)):Nat→List (Nat×List UInt8)→Prop
 |done {i:Nat}(h:∀j,i≤j→j<m.length→m[j]? = some none):Z0t m i []
 |run {i a b:Nat}{xs:List UInt8}{l:List (Nat×List UInt8)}(h1:i≤a) (h2:∀j,i≤j→j<a→m[j]? = some none) (h3:a<b) (h4:b≤m.length) (h5:∀j,a≤j→j<b→∃x,m[j]? = some (some x)∧xs[j-a]? = some x) (h6:xs.length=b-a) (h7:b=m.length∨m[b]? = some none) (h:Z0t m b l):Z0t m i ((a,xs)::l)
def Z8z (m:List (Option UInt8)):List UInt8:=m.map fun o=>o.getD 0
theorem X8k (m:List (Option UInt8)):P2 m=(Z8z m).map bv:=by
 unfold P2 Z8z;rw[List.map_map];rfl
theorem Y5p (m:List (Option UInt8)):(Z8z m).length=m.length:=List.length_map _
theorem X2n {w:World}{g B:Nat}{xs:List UInt8}(hC:X5 w g (xs.map bv)) (hg:g<B):RB w B (some ⟨g,0,none⟩) xs:=
 ⟨by rw[List.length_map,Nat.mul_one],fun _=>⟨_,rfl,hg,fun j u hu=>by rw[Addr.add_mid,Nat.zero_add];exact hC.get j u hu⟩⟩
def PP (w:World) (b nq:Nat) (l:List (Nat×List UInt8)) (cs:List Value):Prop:=
 cs.length=l.length*2∧∀k p,l[k]? = some p→∃v,cs[k*2]? = some (iz (Y6 nq p.1:Nat))∧cs[k*2+1]? = some v∧Y2 b p.2 v w
theorem Y2.beneath {b:Nat}{xs:List UInt8}{v:Value}{w w':World}(h:Y2 b xs v w) (hb:Below w.heap.size w w'):Y2 b xs v w':=by
 obtain⟨A,c,e,h⟩:=h;exact⟨A,c,e,Y1 h hb⟩
theorem Y2.apart {b b' s n T:Nat}{xs:List UInt8}{v u:Value}{ys:List Value}{w w':World}(h:Y2 b xs v w) (hO:w.ownsRow b' T s u n ys) (hg:w.grownBy w' u.ownBlock) (hT:Nat.beq 5 T=false):Y2 b xs v w':=by
 obtain⟨A,c,e,h⟩:=h;exact⟨A,c,e,h.kept hg (G8 h hO hT)⟩
theorem PP.beneath {w w':World}{b nq:Nat}{l:List (Nat×List UInt8)}{cs:List Value}(h:PP w b nq l cs) (hb:Below w.heap.size w w'):PP w' b nq l cs:=by
 refine⟨h.1,fun k p hk=>?_⟩;obtain⟨v,h1,h2,h3⟩:=h.2 k p hk;exact⟨v,h1,h2,h3.beneath hb⟩
theorem PP.apart {w w':World}{b nq b' s n T:Nat}{l:List (Nat×List UInt8)}{cs ys:List Value}{u:Value}(h:PP w b nq l cs) (hO:w.ownsRow b' T s u n ys) (hg:w.grownBy w' u.ownBlock) (hT:Nat.beq 5 T=false):PP w' b nq l cs:=by
 refine⟨h.1,fun k p hk=>?_⟩;obtain⟨v,h1,h2,h3⟩:=h.2 k p hk;exact⟨v,h1,h2,h3.apart hO hg hT⟩
theorem PP.snoc {w:World}{b nq:Nat}{l:List (Nat×List UInt8)}{cs:List Value}(h:PP w b nq l cs) {a:Nat}{xs:List UInt8}{v:Value}(hr:Y2 b xs v w):PP w b nq (l++[(a,xs)]) (cs++[iz (Y6 nq a:Nat),v]):=by
 refine⟨by rw[List.length_append,List.length_append,h.1];simp only[List.length_cons,List.length_nil];omega,fun k p hk=>?_⟩;rcases Nat.lt_or_ge k l.length with hlt |hge
 ·rw[List.getElem?_append_left hlt] at hk
  obtain⟨u,h1,h2,h3⟩:=h.2 k p hk;exact⟨u,by rw[List.getElem?_append_left (by rw[h.1];omega)];exact h1,by rw[List.getElem?_append_left (by rw[h.1];omega)];exact h2,h3⟩
 ·rw[List.getElem?_append_right hge] at hk
  have hk0:k-l.length=0:=by
   rcases Nat.eq_zero_or_pos (k-l.length) with h0 |h0
   ·exact h0
   ·rw[List.getElem?_eq_none (by simp only[List.length_singleton];omega)] at hk;cases hk
  rw[hk0] at hk;have hk:(a,xs)=p:=by simpa using hk
  subst hk;refine⟨v, ?_, ?_,hr⟩
  ·rw[List.getElem?_append_right (by rw[h.1];omega),show k*2-cs.length=0 by rw[h.1];omega];rfl
  ·rw[List.getElem?_append_right (by rw[h.1];omega),show k*2+1-cs.length=1 by rw[h.1];omega];rfl
theorem X5q (A:Option Addr) (n c:Nat) (h3:n≤c) (w:World):(Instr.sliceAt 102 (.slice A n c) none (some (iz n)) (some (iz n))).run Tryz.prog w = .ok (.slice A n n) w:=by
 simp[go_sem];omega
theorem J0g (A:Option Addr) (n c:Nat) (h3:n≤c) (w:World):Calls Tryz.prog 127 #[.slice A n c] w fun e w'=>e = .returned (.slice A n n)∧w=w':=by
 go_enter Tryz.func127,Tryz.ntmps127
 refine Z9.start 9 [(0, .slice A n c)] rfl rfl ⟨rfl,trivial⟩ ?_;intro a0 H0;refine H0.rg 1 fun a H=>nt ?_;refine H.rg 2 fun a H=>?_;refine H.len gz rfl rfl rfl rfl Tryz.underlying102 fun a H=>?_;refine H.ms 1 fun a H=>?_;refine H.len gz rfl rfl rfl rfl Tryz.underlying102 fun a H=>?_;refine H.go (w':=w) gz rfl rfl (.slice A n n) (by
  unfold execOp;simp only[H.ev (x:=.tmp 3) rfl,H.ev (x:=.tmp 5) rfl,H.ev (x:=.tmp 7) rfl,Option.map_some,Option.map_none,Sem.run_bind,X5q A n c h3,Result.andThen_ok,Sem.run_pure]) fun a H=>?_
 refine H.ms 1 fun a H=>nt (wp_ret ?_);repeat with_reducible first |apply Z4 |apply Z5
 exact bodyPost_ret (results_tmp rfl _ _ _) H.df ⟨congrArg Ending.returned (H.at_ 2 _ rfl),rfl⟩
theorem J0h:(Tryz.prog.info? 153).map (fun i=>(i.zero,i.size,i.bytes))=some (some (.agg #[iz 0,Z2]),2,32):=by kernel_rfl
theorem Q1t (y:List UInt8) (n:Nat) (hn:y.length=n) (A:Option Addr) (c:Nat) (w:World) (hx:RB w w.heap.size A y) (hl:n≤140737488351232):
  Calls Tryz.prog 80 #[.slice A n c] w fun e w'=>∃v,e = .returned v∧∃A' c',v = .slice A' n c'∧w'.ownsRow w.heap.size 5 1 (.slice A' n c') n (y.map bv)∧Below w.heap.size w w':=
 (J2s y n hn A c w hx hl).mono fun _ _ ⟨A',c',h1,h2,h3⟩=>⟨_,h1,A',c',rfl,h2,h3⟩
end
section
open Go.RowKit
def Y4b (a:Act):Nat:=match a.tmps.getD 7 undef with
 | .int _ i=>(2048-i).toNat
 |_=>0
def PF (W:World) (nq:Nat) (l:List (Nat×List UInt8)) (cs:List Value) (v:Value) (w:World):Prop:=
 Below W.heap.size W w∧w.ownsRow W.heap.size 153 2 v l.length cs∧PP w W.heap.size nq l cs
theorem PF.next {W w w':World}{nq:Nat}{l:List (Nat×List UInt8)}{cs:List Value}{v:Value}(h:PF W nq l cs v w) (hb:Below w.heap.size w w'):PF W nq l cs v w':=
 ⟨h.1.trans (hb.mono h.1.size),Y1 h.2.1 hb,h.2.2.beneath hb⟩
structure Q1u (W:World) (nq gH gA:Nat) (m:List (Option UInt8)) (a:Act) (w:World) (i:Nat) (l:List (Nat×List UInt8)) (cs:List Value) (v:Value):Prop where
 at_:Z9 a 52 [(0,iz nq),(1, .slice (some ⟨gH,0,none⟩) 2048 2048),(2, .slice (some ⟨gA,0,none⟩) 2048 2048),(6,v),(7,iz i)]
 hi:i≤2048
 len:l.length≤i
 fed:∀{l2:List (Nat×List UInt8)},Z0t m i l2→Z0t m 0 (l++l2)
 pf:PF W nq l cs v w
theorem X5r (nq gH gA:Nat) (m:List (Option UInt8)) (hm:m.length=2048) (w:World) (hq:nq≤4294967295) (hgH:gH<w.heap.size) (hgA:gA<w.heap.size) (hH:X5 w gH (Y0b m)) (hA:X5 w gA (P2 m)):
  Calls Tryz.prog 126 #[iz nq, .slice (some ⟨gH,0,none⟩) 2048 2048, .slice (some ⟨gA,0,none⟩) 2048 2048] w fun e w'=>∃v,e = .returned v∧∃l cs,Z0t m 0 l∧l.length≤2048∧PF w nq l cs v w':=by
 go_enter Tryz.func126,Tryz.ntmps126
 refine Z9.start 52 [(0,iz nq),(1, .slice (some ⟨gH,0,none⟩) 2048 2048),(2, .slice (some ⟨gA,0,none⟩) 2048 2048)] rfl rfl ⟨rfl,rfl,rfl,trivial⟩ ?_;intro a0 H0;have hH1:∀{l cs v w'},PF w nq l cs v w'→X5 w' gH (Y0b m):=fun h=>hH.below h.1 hgH;have hA1:∀{l cs v w'},PF w nq l cs v w'→X5 w' gA (P2 m):=fun h=>hA.below h.1 hgA;refine H0.rg 1 fun a H=>nt ?_;refine Z3e (k:=0) rfl (fun a w'=>∃i l cs v,Q1u w nq gH gA m a w' i l cs v) (fun a _=>Y4b a) ?_ ?_
 ·intro hpass
  refine H.rg 2 fun a H=>nt ?_;refine wp_seq (Y5h (Z0 ?_));exact hpass _ _ ⟨0,[],[],Z2,H.keep ⟨rfl,rfl,rfl,rfl,rfl,trivial⟩,by decide,Nat.le_refl _,fun h=>h,Below.refl _ _,World.ownsRow_nil _ _ _ _,rfl,fun k p h=>by simp at h⟩
 clear H0 H;rintro a w1 ⟨i0,l,cs,v,H,hi0,hlen,hfed,hF⟩;have hmu:Y4b a=2048-i0:=by unfold Y4b;rw[show a.tmps.getD 7 undef=iz i0 from H.at_ 7 _ rfl];show (2048-(i0:Int)).toNat=_;omega
 rw[hmu];refine Z8 (fun a w'=>PF w nq l cs v w'∧∃i:Nat,Z9 a 52 [(0,iz nq),(1, .slice (some ⟨gH,0,none⟩) 2048 2048),(2, .slice (some ⟨gA,0,none⟩) 2048 2048),(6,v),(7,iz i)]∧i0≤i∧i≤2048∧(∀j:Nat,i0≤j→j<i→m[j]? = some none)∧(i=2048∨∃x,m[i]? = some (some x))) ?_ ?_
 ·refine wp_block ?_
  refine Q7 (2048-i0) (fun k a w'=>PF w nq l cs v w'∧Z9 a 52 [(0,iz nq),(1, .slice (some ⟨gH,0,none⟩) 2048 2048),(2, .slice (some ⟨gA,0,none⟩) 2048 2048),(6,v),(7,iz ((i0+k:Nat):Int))]∧i0+k≤2048∧(∀j:Nat,i0≤j→j<i0+k→m[j]? = some none)) ⟨hF,H,hi0,fun j h1 h2=>absurd h2 (by omega)⟩ ?_;clear H hF;rintro k a w2 hk ⟨hF,H,hle,hno⟩;obtain⟨i,hik⟩:∃i,i0+k=i:=⟨_,rfl⟩;rw[hik] at H hle hno;by_cases hlt:i<2048
  rotate_left
  ·refine H.tb (PF w nq l cs v) (fun _ _ h hb=>h.next hb) hF [ec 0 9 (iz i),ec 1 10 (.slice (some ⟨gH,0,none⟩) 2048 2048),ec 2 11 (iz ((2048:Nat):Int)),ec 3 12 (.bool false),ec 4 13 (.bool false),ec 5 14 undef,ec 6 15 undef,ec 7 16 undef,ec 8 17 undef,ec 9 18 undef,ec 10 19 (.bool false)] rfl ⟨jm,jm,jn Tryz.underlying151,jb fun _=>Q3 (i:Int) ((2048:Nat):Int) false (by rw[decide_eq_false_iff_not];omega) _ _ _,jm,jo,jo,jo,jo,jo,jp,trivial⟩ ?_
   intro a w3 H hF;refine Z0 (H.condF rfl ?_);refine wp_exit ?_;repeat (with_reducible refine J7 ?_)
   refine X3 (Z0 ?_);exact⟨hF,i,H.keep ⟨rfl,rfl,rfl,rfl,rfl,trivial⟩,by omega,hle,hno, .inl (by omega)⟩
  obtain⟨od,hod⟩:∃od,m[i]? = some od:=⟨_,List.getElem?_eq_getElem (by omega)⟩;obtain⟨z,hz⟩:∃z,od.isSome=z:=⟨_,rfl⟩;have hcell:=Y1n hod;rw[hz] at hcell;refine H.tb (PF w nq l cs v) (fun _ _ h hb=>h.next hb) hF [ec 0 9 (iz i),ec 1 10 (.slice (some ⟨gH,0,none⟩) 2048 2048),ec 2 11 (iz ((2048:Nat):Int)),ec 3 12 (.bool true),ec 4 13 (.bool true),ec 5 14 (.slice (some ⟨gH,0,none⟩) 2048 2048),ec 6 15 (iz i),ec 7 16 (.pointer (some ⟨gH,i,none⟩)),ec 8 17 (.bool z),ec 9 18 (.bool (!z)),ec 10 19 (.bool (!z))] rfl ⟨jm,jm,jn Tryz.underlying151,jb fun _=>Q3 (i:Int) ((2048:Nat):Int) true (by rw[decide_eq_true_iff];omega) _ _ _,jm,jm,jm,jI rfl rfl rfl rfl rfl rfl (Z2f gH 2048 2048 i hlt),jl fun _ h=>V0 _ _ _ _ ((hH1 h).get i _ hcell),ju (hq:=G5 z),jp,trivial⟩ ?_;intro a w3 H hF;cases od with
  |some x=>
   subst hz;refine Z0 (H.condF rfl ?_);refine wp_exit ?_;repeat (with_reducible refine J7 ?_)
   refine X3 (Z0 ?_);exact⟨hF,i,H.keep ⟨rfl,rfl,rfl,rfl,rfl,trivial⟩,by omega,hle,hno, .inr ⟨x,hod⟩⟩
  |none=>
   subst hz;refine Z0 (H.condT rfl (Z3 (Z0 ?_)));replace H:=H.kp [0,1,2,6,7];refine wp_block ?_;refine H.rg 1 fun a H=>?_;refine H.bb 1 rfl rfl rfl rfl rfl rfl (E7 i (by omega) _ _ _) rfl fun a H=>wpList_nil ?_;refine Z6 (Z0 ?_);refine⟨by omega,hF,(by rw[←Nat.add_assoc,hik];exact H.keep ⟨rfl,rfl,rfl,rfl,rfl,trivial⟩),by omega,fun j h1 h2=>?_⟩;rcases Nat.lt_or_ge j i with h |h
   ·exact hno j h1 h
   ·rw[show j=i by omega];exact hod
 clear H hF;rintro a w2 ⟨hF,i,H,hi1,hi2,hno,hor⟩;refine H.rg 2 fun a H=>?_;refine H.len gz rfl rfl rfl rfl Tryz.underlying151 fun a H=>?_;by_cases hend:i=2048
 ·refine H.bb 0 rfl rfl rfl rfl rfl rfl (Z7 (i:Int) ((2048:Nat):Int) true (by rw[beq_iff_eq];omega) _ _ _) rfl fun a H=>nt (H.condT rfl ?_)
  refine H.rg 2 fun a H=>nt (wp_ret ?_);repeat (first |(with_reducible refine Z2d ?_) |(with_reducible refine Z5 ?_))
  refine bodyPost_ret (results_tmp rfl _ _ _) H.df ⟨_,congrArg Ending.returned (H.at_ 6 _ rfl),l,cs, ?_,by omega,hF⟩;rw[←List.append_nil l];exact hfed (.done fun j h1 h2=>hno j h1 (by omega))
 obtain⟨x0,hx0⟩:∃x,m[i]? = some (some x):=hor.resolve_left hend;refine H.bb 0 rfl rfl rfl rfl rfl rfl (Z7 (i:Int) ((2048:Nat):Int) false (by rw[beq_eq_false_iff_ne];omega) _ _ _) rfl fun a H=>nt (H.condF rfl (Z3 (Z0 ?_)));replace H:=H.kp [0,1,2,6,7];refine H.rg 2 fun a H=>nt ?_;replace H:=H.kp [0,1,2,6,7,8];refine Z8 (fun a w'=>PF w nq l cs v w'∧∃b:Nat,Z9 a 52 [(0,iz nq),(1, .slice (some ⟨gH,0,none⟩) 2048 2048),(2, .slice (some ⟨gA,0,none⟩) 2048 2048),(6,v),(7,iz b),(8,iz i)]∧i<b∧b≤2048∧(∀j:Nat,i≤j→j<b→∃x,m[j]? = some (some x))∧(b=2048∨m[b]? = some none)) ?_ ?_
 ·refine wp_block ?_
  refine Q7 (2048-i) (fun k a w'=>PF w nq l cs v w'∧Z9 a 52 [(0,iz nq),(1, .slice (some ⟨gH,0,none⟩) 2048 2048),(2, .slice (some ⟨gA,0,none⟩) 2048 2048),(6,v),(7,iz ((i+k:Nat):Int)),(8,iz i)]∧i+k≤2048∧(∀j:Nat,i≤j→j<i+k→∃x,m[j]? = some (some x))) ⟨hF,H,hi2,fun j h1 h2=>absurd h2 (by omega)⟩ ?_;clear H hF;rintro k a w2 hk ⟨hF,H,hle,hyes⟩;obtain⟨b,hik⟩:∃b,i+k=b:=⟨_,rfl⟩;rw[hik] at H hle hyes;by_cases hlt:b<2048
  rotate_left
  ·refine H.tb (PF w nq l cs v) (fun _ _ h hb=>h.next hb) hF [ec 0 28 (iz b),ec 1 29 (.slice (some ⟨gH,0,none⟩) 2048 2048),ec 2 30 (iz ((2048:Nat):Int)),ec 3 31 (.bool false),ec 4 32 (.bool false),ec 5 33 undef,ec 6 34 undef,ec 7 35 undef,ec 8 36 undef,ec 9 37 (.bool false)] rfl ⟨jm,jm,jn Tryz.underlying151,jb fun _=>Q3 (b:Int) ((2048:Nat):Int) false (by rw[decide_eq_false_iff_not];omega) _ _ _,jm,jo,jo,jo,jo,jp,trivial⟩ ?_
   intro a w3 H hF;refine Z0 (H.condF rfl ?_);refine wp_exit ?_;repeat (with_reducible refine J7 ?_)
   refine X3 (Z0 ?_);exact⟨hF,b,H.keep ⟨rfl,rfl,rfl,rfl,rfl,rfl,trivial⟩,by omega,hle,hyes, .inl (by omega)⟩
  obtain⟨od,hod⟩:∃od,m[b]? = some od:=⟨_,List.getElem?_eq_getElem (by omega)⟩;obtain⟨z,hz⟩:∃z,od.isSome=z:=⟨_,rfl⟩;have hcell:=Y1n hod;rw[hz] at hcell;refine H.tb (PF w nq l cs v) (fun _ _ h hb=>h.next hb) hF [ec 0 28 (iz b),ec 1 29 (.slice (some ⟨gH,0,none⟩) 2048 2048),ec 2 30 (iz ((2048:Nat):Int)),ec 3 31 (.bool true),ec 4 32 (.bool true),ec 5 33 (.slice (some ⟨gH,0,none⟩) 2048 2048),ec 6 34 (iz b),ec 7 35 (.pointer (some ⟨gH,b,none⟩)),ec 8 36 (.bool z),ec 9 37 (.bool z)] rfl ⟨jm,jm,jn Tryz.underlying151,jb fun _=>Q3 (b:Int) ((2048:Nat):Int) true (by rw[decide_eq_true_iff];omega) _ _ _,jm,jm,jm,jI rfl rfl rfl rfl rfl rfl (Z2f gH 2048 2048 b hlt),jl fun _ h=>V0 _ _ _ _ ((hH1 h).get b _ hcell),jp,trivial⟩ ?_;intro a w3 H hF;cases od with
  |none=>
   subst hz;refine Z0 (H.condF rfl ?_);refine wp_exit ?_;repeat (with_reducible refine J7 ?_)
   refine X3 (Z0 ?_);refine⟨hF,b,H.keep ⟨rfl,rfl,rfl,rfl,rfl,rfl,trivial⟩, ?_,hle,hyes, .inr hod⟩;rcases Nat.lt_or_ge i b with h |h
   ·exact h
   ·rw[show i=b by omega,hod] at hx0;cases hx0
  |some x=>
   subst hz;refine Z0 (H.condT rfl (Z3 (Z0 ?_)));replace H:=H.kp [0,1,2,6,7,8];refine wp_block ?_;refine H.rg 1 fun a H=>?_;refine H.bb 1 rfl rfl rfl rfl rfl rfl (E7 b (by omega) _ _ _) rfl fun a H=>wpList_nil ?_;refine Z6 (Z0 ?_);refine⟨by omega,hF,(by rw[←Nat.add_assoc,hik];exact H.keep ⟨rfl,rfl,rfl,rfl,rfl,rfl,trivial⟩),by omega,fun j h1 h2=>?_⟩;rcases Nat.lt_or_ge j b with h |h
   ·exact hyes j h1 h
   ·rw[show j=b by omega];exact⟨x,hod⟩
 clear H hF;rintro a w2 ⟨hF,b,H,hib,hb2,hyes,hbor⟩;have hwy:(Z8z m).length=2048:=by rw[Y5p,hm]
 obtain⟨y,hy⟩:∃y,((Z8z m).drop i).take (b-i)=y:=⟨_,rfl⟩;have hyl:y.length=b-i:=by rw[←hy,List.length_take,List.length_drop];omega
 have hget:∀j,i≤j→j<b→∃x,m[j]? = some (some x)∧y[j-i]? = some x:=by
  intro j h1 h2;obtain⟨x,hx⟩:=hyes j h1 h2;refine⟨x,hx, ?_⟩;rw[←hy,List.getElem?_take,if_pos (by omega),List.getElem?_drop,show i+(j-i)=j by omega];unfold Z8z;rw[List.getElem?_map,hx];rfl
 have hfed2:∀{l2:List (Nat×List UInt8)},Z0t m b l2→Z0t m 0 ((l++[(i,y)])++l2):=by
  intro l2 h;rw[List.append_assoc];exact hfed (.run hi1 hno hib (by omega) hget hyl (by rw[hm];exact hbor) h)
 have hsq:=Y1l nq i (by omega) (by omega);refine H.sg (PF w nq l cs v) (hF.next (Below.drew (Below.refl _ _))) [0,1,2,6,7,8] [ec 0 40 v,ec 1 41 (iz nq),ec 2 42 (iz i),ec 3 43 (iz (Y6 nq i:Nat)),ec 4 44 (.slice (some ⟨gA,0,none⟩) 2048 2048),ec 5 45 (iz i),ec 6 46 (iz b),ec 7 47 (.slice (if 2048=i then some ⟨gA,0,none⟩ else (some ⟨gA,0,none⟩:Option Addr).map (·.add i)) (b-i) (2048-i))] rfl ?_;refine St.call 8 ⟨jm,jm,jm,jq fun w' _=>hsq w',jm,jm,jm,js2 fun _=>N0 (some ⟨gA,0,none⟩) 2048 2048 i b (by omega) (by omega) (by omega) _,trivial⟩ (fun wy h=>Q1t y (b-i) hyl _ (2048-i) wy (hy▸((X2n (X8k m▸hA1 h) (Nat.lt_of_lt_of_le hgA h.1.size)).cut (k:=i) (cap:=2048) (by omega) (by omega)).take (b-i)) (by omega)) ?_;rintro wy _ wz h ⟨A',c',rfl,hOz,hbz⟩;refine nx (fun w'=>PF w nq l cs v w'∧Y2 w.heap.size y (.slice A' (b-i) c') w') [ec 9 49 (.agg #[iz (Y6 nq i:Nat), .slice A' (b-i) c'])] [] ⟨h.next hbz,Y2.of hyl (V2 hOz h.1.size)⟩ ?_;refine St.val 10 ⟨ja fun _=>by kernel_rfl,jm,trivial⟩ ?_;intro a wx H _ h;refine⟨.slice (some ⟨wx.heap.size,0,none⟩) 1 1,wx.alloc (.cells #[iz (Y6 nq i:Nat), .slice A' (b-i) c'] 153),Z0f H (by intro cs b h;cases h) (by kernel_rfl) (by kernel_rfl), ?_⟩;generalize hgl:wx.heap.size=gl;refine nx (fun w'=>(PF w nq l cs v w'∧Y2 w.heap.size y (.slice A' (b-i) c') w')∧X4 w' w'.heap.size 2 (some ⟨gl,0,none⟩) 1 [iz (Y6 nq i:Nat), .slice A' (b-i) c']) [] [] ⟨⟨h.1.next (G0 _ _),h.2.beneath (G0 _ _)⟩,by subst hgl;exact X4.lit wx 153 _ (0,0) 2 1 rfl⟩ ?_;refine St.app 11 J0h ⟨jm,trivial⟩ (fun _ h=>⟨h.1.1.2.1,h.2,h.1.1.1.size⟩) (fun u hu=>List.all_eq_true.1 (show ([iz (Y6 nq i:Nat), .slice A' (b-i) c']:List Value).all (·.oneCell')=true from rfl) u hu) ⟨by unfold maxLen;omega,by omega⟩ ?_;intro wx A2 c2 w' h hO hg;refine nx (PF w nq (l++[(i,y)]) (cs++[iz (Y6 nq i:Nat), .slice A' (b-i) c']) (.slice A2 (l.length+1) c2)) [] [] ⟨h.1.1.1.grown hg h.1.1.1.size fun k hk=>(h.1.1.2.1.lt k hk).1,by rw[List.length_append];exact hO,(h.1.1.2.2.apart h.1.1.2.1 hg rfl).snoc (h.1.2.apart h.1.1.2.1 hg rfl)⟩ ?_;refine St.less [(0,iz nq),(1, .slice (some ⟨gH,0,none⟩) 2048 2048),(2, .slice (some ⟨gA,0,none⟩) 2048 2048),(7,iz b),(8,iz i)] (fun _ h=>⟨h.1,h.2.1,h.2.2.1,h.2.2.2.2.1,h.2.2.2.2.2.1,trivial⟩) ?_;refine St.val 12 trivial fun a w' H _ hF=>⟨_,w',N2 (.inr rfl) (H.ev rfl),nx (PF w nq (l++[(i,y)]) (cs++[iz (Y6 nq i:Nat), .slice A' (b-i) c']) (.slice A2 (l.length+1) c2)) [] [] hF (St.fin trivial ?_)⟩;intro a w' H _ hF;refine Z0 (wp_goto ?_);repeat (with_reducible refine G9 ?_)
 refine N4 ⟨⟨b,l++[(i,y)],_,_,H.keep ⟨rfl,rfl,rfl,rfl,rfl,trivial⟩,hb2,by rw[List.length_append,List.length_singleton];omega,hfed2,hF⟩, ?_⟩;unfold Y4b;rw[show a.tmps.getD 7 undef=iz b from H.at_ 7 _ rfl];show (2048-(b:Int)).toNat<2048-i0;omega
end
section
open Go.RowKit
def T2 (nq:Nat) (l:List (Nat×List UInt8)):List (Nat×List UInt8):=l.map fun p=>(Y6 nq p.1,p.2)
def Z2n (nq:Nat):List (Nat×List UInt8)→List (Nat×List UInt8)
 |[]=>[]
 |(a,x)::r=>bif Y6 nq a==nq then r else (a,x)::r
def Z4v (nq:Nat):List (Nat×List UInt8)→List UInt8
 |[]=>[]
 |(a,x)::_=>bif Y6 nq a==nq then x else []
def Z8a (nq:Nat):List (Nat×List UInt8)→Nat
 |[]=>nq
 |(a,x)::_=>bif Y6 nq a==nq then Y6 nq x.length else nq
theorem Z0c (nq p:Nat) (x:List UInt8) (r:List (Nat×List UInt8)):Z2n nq ((p,x)::r)=bif Y6 nq p==nq then r else (p,x)::r:=rfl
theorem Z0z (nq p:Nat) (x:List UInt8) (r:List (Nat×List UInt8)):Z4v nq ((p,x)::r)=bif Y6 nq p==nq then x else []:=rfl
theorem Z2t (nq p:Nat) (x:List UInt8) (r:List (Nat×List UInt8)):Z8a nq ((p,x)::r)=bif Y6 nq p==nq then Y6 nq x.length else nq:=rfl
def Y3t (nq:Nat) (ps:List (Nat×List UInt8)) (sq:Nat) (xs:List UInt8) (nq':Nat) (ps':List (Nat×List UInt8)) (told:List UInt8):Prop:=
 (T1 (Y4 sq nq) xs=[]∧nq'=nq∧ps'=ps∧told=[]) ∨
 (T1 (Y4 sq nq) xs≠[]∧∃l,Z0t (P1 (Z4u nq B8 ps) (Y0m (Y4 sq nq)) (T1 (Y4 sq nq) xs)) 0 l ∧
  ((8<(Z2n nq l).length∧nq'=nq∧ps'=ps∧told=[])∨((Z2n nq l).length≤8∧nq'=Z8a nq l∧ps'=T2 nq (Z2n nq l)∧told=Z4v nq l)))
theorem X5s {m:List (Option UInt8)}{i j:Nat}{x y:UInt8}(h:m[j]? = some (some y)):(Z1v m i x)[j]? = some (some y):=by
 unfold Z1v
 split
 ·next hn=>
  rw[List.getElem?_set];by_cases e:i=j
  ·subst e
   rw[hn] at h;cases h
  ·rw[if_neg e];exact h
 ·exact h
theorem Y8f:∀{xs:List UInt8}{m:List (Option UInt8)}{i j:Nat}{y:UInt8},m[j]? = some (some y)→(P1 m i xs)[j]? = some (some y)
 |[],_,_,_,_,h=>h
 |_::_,_,_,_,_,h=>by
  rw[P1];exact Y8f (X5s h)
theorem J4b {m:List (Option UInt8)}{i:Nat}(x:UInt8) (h:i<m.length):∃y,(Z1v m i x)[i]? = some (some y):=by
 unfold Z1v
 split
 ·exact⟨x,by rw[List.getElem?_set,if_pos rfl,if_pos h]⟩
 ·next hn=>
  rw[List.getElem?_eq_getElem h] at hn ⊢;cases hx:m[i] with
  |none=>rw[hx] at hn;exact absurd rfl hn
  |some y=>exact⟨y,rfl⟩
theorem J0i {m:List (Option UInt8)}{j:Nat}{y:UInt8}(h:m[j]? = some (some y)) (hl:j<m.length):¬Z0t m 0 []:=by
 intro hr;cases hr with
 |done h'=>rw[h' j (Nat.zero_le _) hl] at h;cases h
def RBS (w:World) (S:Nat→Prop) (A:Option Addr) (xs:List UInt8):Prop:=0<xs.length→∃ad:Addr,A=some ad∧S ad.block∧ad.block<w.heap.size∧∀j u,(xs.map bv)[j]? = some u→w.cell? (ad.add j)=some u
theorem RBS.rb {w:World}{S:Nat→Prop}{A:Option Addr}{xs:List UInt8}(h:RBS w S A xs):RB w w.heap.size A xs:=by
 refine⟨by rw[List.length_map,Nat.mul_one],fun hn=>?_⟩;obtain⟨ad,h1,_,h3,h4⟩:=h hn;exact⟨ad,h1,h3,h4⟩
theorem RBS.mono {w:World}{S S':Nat→Prop}{A:Option Addr}{xs:List UInt8}(h:RBS w S A xs) (hS:∀k,k<w.heap.size→S k→S' k):RBS w S' A xs:=by
 intro hn;obtain⟨ad,h1,h2,h3,h4⟩:=h hn;exact⟨ad,h1,hS _ h3 h2,h3,h4⟩
theorem RBS.grown {w w':World}{S:Nat→Prop}{A:Option Addr}{xs:List UInt8}{r:Option Nat}(h:RBS w S A xs) (hg:w.grownBy w' r) (hr:∀k,r=some k→¬S k):RBS w' S A xs:=by
 intro hn;obtain⟨ad,h1,h2,h3,h4⟩:=h hn;refine⟨ad,h1,h2,Nat.lt_of_lt_of_le h3 hg.size,fun j u hu=>?_⟩;have hb:(ad.add j).block=ad.block:=Z0e ..;exact hg.cell (h4 j u hu) (by rw[hb];exact fun e=>hr _ e.symm h2)
def SP (b:Nat) (w:World) (k:Nat):Prop:=b≤k∧¬Z3z w k 104
theorem RBS.of_row {w:World}{b n c:Nat}{A:Option Addr}{xs:List UInt8}(h:w.ownsRow b 5 1 (.slice A n c) n (xs.map bv)) (hn:xs.length=n):RBS w (SP b w) A xs:=by
 intro hp;rw[hn] at hp;obtain⟨g,cap,hv,_,hlt⟩:=h.form hp;injection hv with hA _ _
 subst hA;have hb:=(h.lt g rfl).1;exact⟨_,rfl,⟨hb,fun ht=>ht.far h rfl rfl⟩,hlt,h.cells (g:=g) rfl⟩
def E0 (w:World) (S:Nat→Prop) (AP:Option Addr) (ps:List (Nat×List UInt8)):Prop:=
 ∀k p,ps[k]? = some p→∃g o A c,AP=some ⟨g,o,none⟩∧S g∧g<w.heap.size∧w.rangeAt g (o+k*2) [iz p.1, .slice A p.2.length c]∧RBS w S A p.2
theorem E0.at_ {w:World}{S:Nat→Prop}{AP:Option Addr}{ps:List (Nat×List UInt8)}(h:E0 w S AP ps):Z3v w w.heap.size AP ps:=by
 intro k p hk;obtain⟨g,o,A,c,h1,_,h3,h4,h5⟩:=h k p hk;exact⟨g,o,A,c,h1,h3,h4,h5.rb⟩
theorem E0.mono {w:World}{S S':Nat→Prop}{AP:Option Addr}{ps:List (Nat×List UInt8)}(h:E0 w S AP ps) (hS:∀k,k<w.heap.size→S k→S' k):E0 w S' AP ps:=by
 intro k p hk;obtain⟨g,o,A,c,h1,h2,h3,h4,h5⟩:=h k p hk;exact⟨g,o,A,c,h1,hS _ h3 h2,h3,h4,h5.mono hS⟩
theorem E0.grown {w w':World}{S:Nat→Prop}{AP:Option Addr}{ps:List (Nat×List UInt8)}{r:Option Nat}(h:E0 w S AP ps) (hg:w.grownBy w' r) (hr:∀k,r=some k→¬S k):E0 w' S AP ps:=by
 intro k p hk;obtain⟨g,o,A,c,h1,h2,h3,h4,h5⟩:=h k p hk;refine⟨g,o,A,c,h1,h2,Nat.lt_of_lt_of_le h3 hg.size,fun j u hu=>?_,h5.grown hg hr⟩;exact hg.cell (h4 j u hu) (fun e=>hr _ e.symm h2)
theorem E0.of_row {w:World}{b nq n c:Nat}{A:Option Addr}{l:List (Nat×List UInt8)}{cs:List Value}(hO:w.ownsRow b 153 2 (.slice A n c) n cs) (hP:PP w b nq l cs):E0 w (SP b w) A (T2 nq l):=by
 have hr:=X4.of_own hO;intro k p hk;unfold T2 at hk;rw[List.getElem?_map] at hk;cases hl:l[k]? with
 |none=>rw[hl] at hk;cases hk
 |some q=>
  rw[hl] at hk;injection hk with hk
  subst hk;obtain⟨v,h1,h2,h3⟩:=hP.2 k q hl;have hkl:k<l.length:=(List.getElem?_eq_some_iff.1 hl).1;have hnn:0<n:=by
   have:=hr.1;rw[hP.1] at this;omega
  obtain⟨g,cap,hv,_,hlt⟩:=hO.form hnn;injection hv with hA _ _
  subst hA;obtain⟨ad,e,_,hcell⟩:=hr.2 hnn;injection e with e
  subst e;obtain⟨A',c',rfl,h4⟩:=h3;refine⟨g,0,A',c',rfl,⟨(hO.lt g rfl).1,fun ht=>ht.far hO rfl rfl⟩,hlt, ?_,RBS.of_row h4 rfl⟩;intro j u hu;have hj:j<2:=(List.getElem?_eq_some_iff.1 hu).1;rcases Nat.lt_or_ge j 1 with h0 |h0
  ·have e0:j=0:=by omega
   subst e0;injection hu with hu
   subst hu;have:=hcell _ _ h1;rw[Addr.add_mid] at this;exact this
  ·have e0:j=1:=by omega
   subst e0;injection hu with hu
   subst hu;have:=hcell _ _ h2;rw[Addr.add_mid] at this;rw[Nat.add_assoc];exact this
theorem E0.tail {w:World}{S:Nat→Prop}{g o:Nat}{p:Nat×List UInt8}{ps:List (Nat×List UInt8)}(h:E0 w S (some ⟨g,o,none⟩) (p::ps)):E0 w S (some ⟨g,o+2,none⟩) ps:=by
 intro k q hk;obtain⟨g',o',A,c,h1,h2,h3,h4,h5⟩:=h (k+1) q hk;injection h1 with h1
 injection h1 with h6 h7
 subst h6 h7;exact⟨g,o+2,A,c,rfl,h2,h3,by rw[show o+2+k*2=o+(k+1)*2 by omega];exact h4,h5⟩
theorem E0.nil {w:World}{S:Nat→Prop}{A:Option Addr}:E0 w S A []:=fun k p h=>by simp at h
theorem J4c (g n c:Nat) (h1:1≤n) (_h3:n≤c) (w:World):(Instr.sliceAt 102 (.slice (some ⟨g,0,none⟩) n c) (some (iz 1)) none none).run Tryz.prog w = .ok (.slice (if c=1 then some ⟨g,0,none⟩ else some ⟨g,2,none⟩) (n-1) (c-1)) w:=by
 simp[go_sem];omega
def Q7c (nq:Nat) (AP:Option Addr) (ps:List (Nat×List UInt8)) (sq:Nat) (xs:List UInt8) (W:World) (v:Value) (w:World):Prop:=
 ∃nq' ps' told AP' c A2 c2,v = .tuple #[.agg ([iz (nq':Nat), .slice AP' (ps':List (Nat×List UInt8)).length c]:List Value).toArray, .slice A2 (told:List UInt8).length c2]∧Y3t nq ps sq xs nq' ps' told∧((AP'=AP∧ps'=ps)∨E0 w (SP W.heap.size w) AP' ps')∧RBS w (SP W.heap.size w) A2 told∧Below W.heap.size W w
theorem J4d (nq:Nat) (AP:Option Addr) (cP:Nat) (ps:List (Nat×List UInt8)) (sq:Nat) (xs:List UInt8) (A:Option Addr) (c:Nat) (w:World) (hq:nq≤4294967295) (hs:sq≤4294967295) (hl:ps.length≤100000) (hn:xs.length≤65536) (hc:xs.length≤c) (hP:Z3v w w.heap.size AP ps) (hps:∀p∈ps,p.1≤4294967295∧0≤Y4 p.1 nq∧Y4 p.1 nq+(p.2.length:Int)≤2048) (hr:RB w w.heap.size A xs):
  Calls Tryz.prog 98 #[.agg ([iz nq, .slice AP ps.length cP]:List Value).toArray,iz sq, .slice A xs.length c] w fun e w'=>∃v,e = .returned v∧Q7c nq AP ps sq xs w v w':=by
 go_enter Tryz.func98,Tryz.ntmps98
 refine Z9.start 70 [(0, .agg ([iz nq, .slice AP ps.length cP]:List Value).toArray),(1,iz sq),(2, .slice A xs.length c)] rfl rfl ⟨rfl,rfl,rfl,trivial⟩ ?_;intro a0 H0;have O0:=X0.start w;have hn0:B8.length=2048:=List.length_replicate;refine rl ?_;refine H0.bx O0 0 (L:=[iz nq, .slice AP ps.length cP]) fun a w1 O1 H=>?_;generalize hg3:w.heap.size=g3 at O1 H hP hr ⊢;refine H.al O1 1 Z7e fun a w2 O2 H=>nt ?_;generalize w1.heap.size=g6 at O2 H;have bl:∀{L L':List Value}{w'},X0 w g3 [(g6,L),(g3,L')] w'→Below w.heap.size w w':=fun h=>hg3▸h.bel;replace H:=H.kp [1,2,3,6];refine H.rg 0 fun a H=>?_;refine H.loadS rfl rfl rfl rfl rfl (O2.get 1 rfl) Tryz.underlying104 rfl N9 rfl fun a H=>?_;refine H.ms 2 fun a H=>?_;refine H.cl (X2k nq sq (.slice AP ps.length cP) xs A c hq hs hn hc w2 ((hr.below O2.bel).more O2.le)) ?_;rintro a _ w3 ⟨at_,A1,c1,rfl,hc1,hat,hr1,hb3⟩ H;obtain⟨ys,hys⟩:∃ys,T1 (Y4 sq nq) xs=ys:=⟨_,rfl⟩;have hfit:=J8h (Y4 sq nq) xs;have O3:=O2.call hb3;refine H.ms 1 fun a H=>?_;rw[hys] at H hc1 hr1 hat hfit;refine H.ex (r:=iz at_) 0 fun a H=>?_;refine H.ex (r:=.slice A1 ys.length c1) 2 fun a H=>nt ?_;replace H:=H.kp [3,6,8,9];refine H.rg 1 fun a H=>?_;refine H.len gz rfl rfl rfl rfl Tryz.underlying31 fun a H=>?_;by_cases hy:ys=[]
 ·refine H.bb 0 rfl rfl rfl rfl rfl rfl (Z7 _ _ true (by subst hy;rfl) _ _ _) rfl fun a H=>nt (H.condT rfl ?_)
  refine H.rg 0 fun a H=>?_;refine H.loadS rfl rfl rfl rfl rfl (O3.get 1 rfl) Tryz.underlying104 rfl N9 rfl fun a H=>?_;refine H.st O3 0 1 (L:=[iz nq, .slice AP ps.length cP]) (fun a w4 O4 H=>nt (wp_ret ?_)) N9;repeat with_reducible first |apply Z4 |apply Z5
  refine bodyPost_ret (U0 Tryz.results98 _ _ _ (H.at_ 6 _ rfl) (H.at_ 7 _ rfl) (O4.get 0 rfl) Tryz.underlying104 rfl _ N9 rfl) H.df ⟨_,rfl,nq,ps,[],AP,cP,none,0,rfl, .inl ⟨hys.trans hy,rfl,rfl,rfl⟩, .inl ⟨rfl,rfl⟩,fun h=>absurd h (Nat.lt_irrefl 0),bl O4⟩
 have hne:T1 (Y4 sq nq) xs≠[]:=by rw[hys];exact hy
 have hat':=hat hy;have hfit':at_+ys.length≤2048:=by rw[hat'];exact hfit hy
 have hpos:0<ys.length:=List.length_pos_iff.2 hy;refine H.bb 0 rfl rfl rfl rfl rfl rfl (Z7 _ _ false (by rw[beq_eq_false_iff_ne];omega) _ _ _) rfl fun a H=>nt (H.condF rfl (Z3 (Z0 ?_)));replace H:=H.kp [3,6,8,9];refine H.rg 0 fun a H=>?_;refine H.loadS rfl rfl rfl rfl rfl (O3.get 1 rfl) Tryz.underlying104 rfl N9 rfl fun a H=>?_;refine H.ms 2 fun a H=>?_;refine H.cl (J0f nq AP cP ps at_ ys A1 c1 w3 hq hl ((hP.below O3.bel).more O3.le) hps hr1 hfit') ?_;rintro a _ w4 ⟨gH,gA,rfl,Of⟩ H;have O4:=O3.call Of.bel;refine H.ms 1 fun a H=>?_;refine H.ex (r:=.slice (some ⟨gH,0,none⟩) 2048 2048) 0 fun a H=>?_;refine H.ex (r:=.slice (some ⟨gA,0,none⟩) 2048 2048) 2 fun a H=>nt ?_;replace H:=H.kp [3,6,10,11];obtain⟨mm,hmm⟩:∃mm,P1 (Z4u nq B8 ps) at_ ys=mm:=⟨_,rfl⟩;rw[hmm] at Of;have hml:mm.length=2048:=by rw[←hmm,Z2e,Z3f,hn0]
 refine H.rg 1 fun a H=>?_;refine H.ld 2 (O4.li 1 0) fun a H=>?_;refine H.cl (X5r nq gH gA mm hml w4 hq (Of.lt 1 rfl) (Of.lt 0 rfl) (Of.get 1 rfl) (Of.get 0 rfl)) ?_;rintro a vl w5 ⟨l,cs,hR,hll,hbl,hrow,hpk⟩ H;have O5:=O4.call hbl;refine H.ms 1 fun a H=>nt ?_;refine H.rg 1 fun a H=>nt ?_;refine H.rg 1 fun a H=>?_;refine H.ld 1 (O5.li 1 0) fun a H=>nt ?_;replace H:=H.kp [3,6,12,13,14];obtain⟨y0,yr,hys2⟩:∃y0 yr,ys=y0::yr:=by
  cases ys with
  |nil=>exact absurd rfl hy
  |cons y0 yr=>exact⟨y0,yr,rfl⟩
 rcases l with _ |⟨⟨p0,x0⟩,r⟩
 ·exfalso
  have h0:at_<(Z4u nq B8 ps).length:=by rw[Z3f,hn0];omega
  obtain⟨z,hz⟩:=J4b y0 h0;refine J0i (m:=mm) (j:=at_) (y:=z) ?_ (by omega) hR;rw[←hmm,hys2,P1];exact Y8f hz
 obtain⟨gl,cl,hv,hcl,hgl⟩:=hrow.form (Nat.succ_pos _);subst hv;have hcap:r.length+1≤cl:=Z4s hrow;obtain⟨_,hcs0,hcs1,A0,c0,rfl,hO0⟩:=hpk.2 0 _ rfl;have hlt6:g6<w4.heap.size:=O4.lt 0 rfl;have k1:w5.cell? ⟨gl,0,none⟩=some (iz (Y6 nq p0)):=hrow.cells (g:=gl) rfl 0 _ hcs0;have k2:w5.cell? ⟨gl,1,none⟩=some (.slice A0 x0.length c0):=hrow.cells (g:=gl) rfl 1 _ hcs1;have hPA:∀{w6 w7:World},Below w5.heap.size w5 w6→w6.grownBy w7 (some g6)→E0 w7 (SP w4.heap.size w7) (some ⟨gl,0,none⟩) (T2 nq ((p0,x0)::r))∧RBS w7 (SP w4.heap.size w7) A0 x0:=by
  intro w6 w7 hb hg;have h1:=Y1 hrow hb;have h2:=Y1 hO0 hb;refine⟨E0.of_row (h1.kept hg (.inr (Q1 h1 (.inl hlt6)).symm)) ⟨hpk.1,fun k p hk=>?_⟩,RBS.of_row (h2.kept hg (.inr (Q1 h2 (.inl hlt6)).symm)) rfl⟩;obtain⟨v,q1,q2,A',c',e,q3⟩:=hpk.2 k p hk;have q4:=Y1 q3 hb;exact⟨v,q1,q2,A',c',e,q4.kept hg (.inr (Q1 q4 (.inl hlt6)).symm)⟩
 obtain⟨z,hz⟩:∃z,(Y6 nq p0==nq)=z:=⟨_,rfl⟩;have hzi:(((Y6 nq p0:Nat):Int)==(nq:Int))=z:=by rw[←hz,Bool.eq_iff_iff,beq_iff_eq,beq_iff_eq];omega
 refine Z8 (fun a w'=>∃(l2:List (Nat×List UInt8)) (A2:Option Addr) (n2 c2:Nat) (At:Option Addr) (n9 ct:Nat),Z9 a 70 [(3,pz g3),(6,pz g6),(12, .slice A2 n2 c2),(13, .slice At n9 ct),(14,iz (Z8a nq ((p0,x0)::r):Nat))]∧l2.length=n2∧n2≤c2∧l2=T2 nq (Z2n nq ((p0,x0)::r))∧X0 w g3 [(g6,[iz 0,Z2]),(g3,[iz nq, .slice AP ps.length cP])] w'∧(Z4v nq ((p0,x0)::r)).length=n9∧∀w'',w'.grownBy w'' (some g6)→E0 w'' (SP w4.heap.size w'') A2 l2∧RBS w'' (SP w4.heap.size w'') At (Z4v nq ((p0,x0)::r))) ?_ ?_
 ·refine H.dq (fun w'=>X0 w g3 [(g6,[iz 0,Z2]),(g3,[iz nq, .slice AP ps.length cP])] w'∧Below w5.heap.size w5 w') (fun _ _ h hb=>⟨h.1.call hb,h.2.trans (hb.mono h.2.size)⟩) ⟨O5,Below.refl _ _⟩ [3,6,12,13,14] rfl [ec 0 40 (.slice (some ⟨gl,0,none⟩) (r.length+1) cl),ec 1 41 (pz gl),ec 2 42 (pz gl),ec 3 43 (iz (Y6 nq p0)),ec 4 44 (pz g3),ec 5 45 (iz nq),ec 6 46 (.bool z)] rfl
   ⟨jm,jI rfl rfl rfl rfl rfl rfl (Z3u 102 Tryz.underlying102 2 (fun _=>by kernel_rfl) gl 0 (r.length+1) cl 0 (Nat.succ_pos _)),jm,jl fun _ h=>J9 _ _ _ _ ((T6 h.2 hgl).trans k1),jm,jl fun _ h=>h.1.li 1 0,jb fun _=>Z7 _ _ z hzi _ _ _,trivial⟩ trivial ?_
  intro a w6 H _ ⟨O6,hb6⟩;have hlen:(T2 nq r).length=r.length:=List.length_map _;cases z with
  |false=>
   refine Z0 (H.condF rfl (Z3 (Z0 ?_)));refine⟨T2 nq ((p0,x0)::r),some ⟨gl,0,none⟩,r.length+1,cl,none,0,0, ?_, ?_,hcap, ?_,O6, ?_,fun w7 hg=>⟨(hPA hb6 hg).1, ?_⟩⟩
   ·rw[Z2t,hz,cond_false]
    exact H.keep ⟨rfl,rfl,rfl,rfl,rfl,trivial⟩
   ·exact congrArg (· + 1) hlen
   ·rw[Z0c,hz,cond_false]
   ·rw[Z0z,hz,cond_false]
    rfl
   ·rw[Z0z,hz,cond_false]
    exact fun h=>absurd h (Nat.lt_irrefl 0)
  |true=>
   refine Z0 (H.condT rfl ?_);replace H:=H.kp [3,6,12];have hx0:x0.length≤2048:=by
    cases hR with
    |run h1 h2 h3 h4 h5 h6 h7 h=>omega
   have hsq:=Y1l nq x0.length (by omega) (by omega);refine H.sg (fun w'=>X0 w g3 [(g6,[iz 0,Z2]),(g3,[iz nq, .slice AP ps.length cP])] w'∧Below w5.heap.size w5 w') ⟨O6.drew,hb6.trans (Below.drew (Below.refl _ _) |>.mono hb6.size)⟩ [3,6,12] [ec 0 47 (.slice (some ⟨gl,0,none⟩) (r.length+1) cl),ec 1 48 (pz gl),ec 2 49 (.pointer (some ⟨gl,1,none⟩)),ec 3 50 (.slice A0 x0.length c0),ec 4 51 (pz g3),ec 5 52 (iz nq),ec 6 53 (.slice (some ⟨gl,0,none⟩) (r.length+1) cl),ec 7 54 (pz gl),ec 8 55 (.pointer (some ⟨gl,1,none⟩)),ec 9 56 (.slice A0 x0.length c0),ec 10 57 (iz x0.length),ec 11 58 (iz (Y6 nq x0.length)),ec 12 59 (.slice (some ⟨gl,0,none⟩) (r.length+1) cl),ec 13 60 (.slice (if cl=1 then some ⟨gl,0,none⟩ else some ⟨gl,2,none⟩) (r.length+1-1) (cl-1)),ec 14 13 (.slice A0 x0.length c0),ec 15 14 (iz (Y6 nq x0.length))] rfl ?_;refine St.val 16 ⟨jm,jI rfl rfl rfl rfl rfl rfl (Z3u 102 Tryz.underlying102 2 (fun _=>by kernel_rfl) gl 0 (r.length+1) cl 0 (Nat.succ_pos _)),jm,jl fun _ h=>U8 _ _ _ _ _ _ ((T6 h.2 hgl).trans k2),jm,jl fun _ h=>h.1.li 1 0,jm,jI rfl rfl rfl rfl rfl rfl (Z3u 102 Tryz.underlying102 2 (fun _=>by kernel_rfl) gl 0 (r.length+1) cl 0 (Nat.succ_pos _)),jm,jl fun _ h=>U8 _ _ _ _ _ _ ((T6 h.2 hgl).trans k2),jn Tryz.underlying31,jq fun w' _=>hsq w',jm,js1 fun _=>J4c gl (r.length+1) cl (by omega) hcap _,jm,jm,trivial⟩ fun a wu H _ hF=>⟨_,wu,N2 (.inr rfl) (H.ev rfl),nxl [(3,pz g3),(6,pz g6)] (fun _ h=>⟨h.1,h.2.1,trivial⟩) (fun w'=>X0 w g3 [(g6,[iz 0,Z2]),(g3,[iz nq, .slice AP ps.length cP])] w'∧Below w5.heap.size w5 w') [] [] hF (St.fin trivial ?_)⟩;intro a w7 H _ ⟨O7,hb7⟩;refine Z0 ?_;refine⟨T2 nq r,if cl=1 then some ⟨gl,0,none⟩ else some ⟨gl,2,none⟩,r.length,cl-1,A0,x0.length,c0, ?_,hlen,by omega, ?_,O7, ?_,fun w8 hg=>⟨?_, ?_⟩⟩
   ·rw[Z2t,hz,cond_true]
    exact H.keep ⟨rfl,rfl,rfl,rfl,rfl,trivial⟩
   ·rw[Z0c,hz,cond_true]
   ·rw[Z0z,hz,cond_true]
   ·split
    ·have:r=[]:=List.length_eq_zero_iff.1 (by omega)
     subst this;exact E0.nil
    ·exact E0.tail (o:=0) (hPA hb7 hg).1
   ·rw[Z0z,hz,cond_true]
    exact(hPA hb7 hg).2
 have hw4:w.heap.size≤w4.heap.size:=(bl O4).size;clear H O5 hPA hrow hpk hcap k1 k2 hO0;rintro a w8 ⟨l2,A2,n2,c2,At,n9,ct,H,hl2,hc2,hl2e,O8,hnt,hK⟩;refine H.rg 1 fun a H=>?_;refine H.len gz rfl rfl rfl rfl Tryz.underlying102 fun a H=>?_;have hlr:n2=(Z2n nq ((p0,x0)::r)).length:=by rw[←hl2,hl2e];exact List.length_map _
 have hRR:Z0t (P1 (Z4u nq B8 ps) (Y0m (Y4 sq nq)) (T1 (Y4 sq nq) xs)) 0 ((p0,x0)::r):=by rw[hys,←hat',hmm];exact hR
 by_cases h8:8<n2
 ·refine H.bb 0 rfl rfl rfl rfl rfl rfl (S0 (n2:Int) 8 true (by rw[decide_eq_true_iff];omega) _ _ _) rfl fun a H=>nt (H.condT rfl ?_)
  refine H.rg 0 fun a H=>?_;refine H.loadS rfl rfl rfl rfl rfl (O8.get 1 rfl) Tryz.underlying104 rfl N9 rfl fun a H=>?_;refine H.st O8 0 1 (L:=[iz nq, .slice AP ps.length cP]) (fun a w9 O9 H=>nt (wp_ret ?_)) N9;repeat with_reducible first |apply Z4 |apply Z5
  refine bodyPost_ret (U0 Tryz.results98 _ _ _ (H.at_ 6 _ rfl) (H.at_ 7 _ rfl) (O9.get 0 rfl) Tryz.underlying104 rfl _ N9 rfl) H.df ⟨_,rfl,nq,ps,[],AP,cP,none,0,rfl, .inr ⟨hne,_,hRR, .inl ⟨hlr▸h8,rfl,rfl,rfl⟩⟩, .inl ⟨rfl,rfl⟩,fun h=>absurd h (Nat.lt_irrefl 0),bl O9⟩
 ·refine H.bb 0 rfl rfl rfl rfl rfl rfl (S0 (n2:Int) 8 false (by rw[decide_eq_false_iff_not];omega) _ _ _) rfl fun a H=>nt (H.condF rfl (Z3 (Z0 ?_)))
  refine H.rg 2 fun a H=>?_;refine H.cq 0 (J0g A2 n2 c2 hc2 w8) fun a H=>?_;refine H.any (w':=w8) gz rfl rfl (.agg ([iz (Z8a nq ((p0,x0)::r):Nat), .slice A2 n2 n2]:List Value).toArray) (by intro cs b h;cases h) (by kernel_rfl) (by kernel_rfl) fun a H=>?_;refine H.ms 1 fun a H=>?_;refine H.storeS rfl rfl rfl rfl rfl (O8.get 0 rfl) N9 rfl rfl rfl fun a w9 H hg9 hs9 hC9=>?_;have O9:=O8.store 0 rfl hg9 hs9 hC9;obtain⟨hP9,ht9⟩:=hK w9 hg9;refine H.ms 1 fun a H=>nt (wp_ret ?_);repeat with_reducible first |apply Z4 |apply Z5
  exact bodyPost_ret (U0 Tryz.results98 _ _ _ (H.at_ 6 _ rfl) (H.at_ 7 _ rfl) (O9.get 0 rfl) Tryz.underlying104 rfl _ N9 rfl) H.df ⟨_,rfl,Z8a nq ((p0,x0)::r),l2,Z4v nq ((p0,x0)::r),A2,n2,At,ct,by rw[hl2,hnt], .inr ⟨hne,_,hRR, .inr ⟨by omega,rfl,hl2e,rfl⟩⟩, .inr (hP9.mono fun k _ h=>⟨Nat.le_trans hw4 h.1,h.2⟩),ht9.mono fun k _ h=>⟨Nat.le_trans hw4 h.1,h.2⟩,bl O9⟩
end
section
theorem Z7g:∀(xs:List UInt8) (m:List (Option UInt8)) (i j:Nat),(P1 m i xs)[j]? = if i≤j∧j<i+xs.length∧m[j]? = some none then some (xs[j-i]?) else m[j]?
 |[],m,i,j=>by
  rw[if_neg (by rintro⟨h1,h2,_⟩;simp at h2;omega)];rfl
 |x::r,m,i,j=>by
  rw[P1,Z7g r (Z1v m i x) (i+1) j];have hl:(Z1v m i x)[j]? = if i=j∧m[j]? = some none then some (some x) else m[j]? :=by
   unfold Z1v;by_cases hn:m[i]? = some none
   ·rw[if_pos hn,List.getElem?_set]
    by_cases e:i=j
    ·subst e
     rw[if_pos rfl,if_pos (List.getElem?_eq_some_iff.1 hn).1,if_pos ⟨rfl,hn⟩]
    ·rw[if_neg e,if_neg (fun h=>e h.1)]
   ·rw[if_neg hn,if_neg]
    rintro⟨rfl,h⟩;exact hn h
  rw[hl];rcases Nat.lt_trichotomy j i with h |h |h
  ·rw[if_neg (by omega),if_neg (by omega),if_neg (by omega)]
  ·subst h
   by_cases hn:m[j]? = some none
   ·rw[if_neg (by omega),if_pos ⟨rfl,hn⟩,if_pos ⟨Nat.le_refl _,by simp,hn⟩,Nat.sub_self]
    rfl
   ·rw[if_neg (by omega),if_neg (fun h=>hn h.2),if_neg (fun h=>hn h.2.2)]
  ·rw[if_neg (show ¬(i=j∧m[j]? = some none) by omega)]
   by_cases hn:i+1≤j∧j<i+1+r.length∧m[j]? = some none
   ·rw[if_pos hn,if_pos ⟨by omega,by rw[List.length_cons];omega,hn.2.2⟩,show j-i=(j-(i+1))+1 by omega,List.getElem?_cons_succ]
   ·rw[if_neg hn,if_neg]
    rintro⟨h1,h2,h3⟩;rw[List.length_cons] at h2;exact hn ⟨by omega,by omega,h3⟩
theorem Z8b {m:List (Option UInt8)}{i:Nat}{l:List (Nat×List UInt8)}(h:Z0t m i l):∀p∈l,i≤p.1∧0<p.2.length∧p.1+p.2.length≤m.length:=by
 induction h with
 |done h=>intro p hp;cases hp
 | @run i a b xs l h1 h2 h3 h4 h5 h6 h7 h ih=>
  intro p hp;rcases List.mem_cons.1 hp with rfl |hp
  ·exact⟨h1,by show 0<xs.length;omega,by show a+xs.length≤_;omega⟩
  ·have:=ih p hp
   exact⟨by omega,this.2⟩
theorem J0j {m:List (Option UInt8)}{i a:Nat}{xs:List UInt8}{l:List (Nat×List UInt8)}(h:Z0t m i ((a,xs)::l)):∀p∈l,a+xs.length≤p.1:=by
 cases h with
 | @run _ _ b _ _ h1 h2 h3 h4 h5 h6 h7 h=>
  intro p hp;have:=(Z8b h p hp).1;omega
theorem Y5q {m:List (Option UInt8)}{i:Nat}{l l':List (Nat×List UInt8)}(h:Z0t m i l) (h':Z0t m i l'):l=l':=by
 induction h generalizing l' with
 | @done i h=>
  cases h' with
  |done=>rfl
  | @run _ a b xs r h1 h2 h3 h4 h5 h6 h7 hr=>
   obtain⟨x,e,_⟩:=h5 a (Nat.le_refl _) h3;rw[h a h1 (by omega)] at e;cases e
 | @run i a b xs r h1 h2 h3 h4 h5 h6 h7 hr ih=>
  cases h' with
  |done h=>
   obtain⟨x,e,_⟩:=h5 a (Nat.le_refl _) h3;rw[h a h1 (by omega)] at e;cases e
  | @run _ a' b' xs' r' g1 g2 g3 g4 g5 g6 g7 gr=>
   have ha:a=a':=by
    rcases Nat.lt_trichotomy a a' with h |h |h
    ·obtain⟨x,e,_⟩:=h5 a (Nat.le_refl _) h3
     rw[g2 a h1 h] at e;cases e
    ·exact h
    ·obtain⟨x,e,_⟩:=g5 a' (Nat.le_refl _) g3
     rw[h2 a' g1 h] at e;cases e
   subst ha;have hb:b=b':=by
    rcases Nat.lt_trichotomy b b' with h |h |h
    ·obtain⟨x,e,_⟩:=g5 b (Nat.le_of_lt h3) h
     rcases h7 with h7 |h7
     ·omega
     ·rw[h7] at e;cases e
    ·exact h
    ·obtain⟨x,e,_⟩:=h5 b' (Nat.le_of_lt g3) h
     rcases g7 with g7 |g7
     ·omega
     ·rw[g7] at e;cases e
   subst hb;have hx:xs=xs':=by
    apply List.ext_getElem?;intro k;rcases Nat.lt_or_ge k xs.length with hk |hk
    ·obtain⟨x,e,f⟩:=h5 (a+k) (Nat.le_add_right _ _) (by omega)
     obtain⟨y,e',f'⟩:=g5 (a+k) (Nat.le_add_right _ _) (by omega);rw[e] at e';injection e' with e'
     injection e' with e'
     subst e';rw[Nat.add_sub_cancel_left] at f f';rw[f,f']
    ·rw[List.getElem?_eq_none hk,List.getElem?_eq_none (by omega)]
   rw[hx,ih gr]
theorem Z9a {a:Nat}(h:a≤4294967295):Y6 a 0=a:=by unfold Y6;omega
theorem Z5q {a p:Nat}(h:a≤4294967295) (hp:p≤2048):(Y6 a p=a)=(p=0):=by
 unfold Y6;apply propext;omega
theorem Y5r {a p q:Nat}(h:q≤p) (hp:p≤100000):Y4 (Y6 a p) (Y6 a q)=(p:Int)-(q:Int):=by
 unfold Y4 Y6
 split<;>omega
theorem Z9b {a p:Nat}(h:a≤4294967295) (hp:p≤100000):Y4 (Y6 a p) a=p:=by
 have:=Y5r (a:=a) (Nat.zero_le p) hp;rw[Z9a h] at this;omega
def J4e (nq:Nat) (ps:List (Nat×List UInt8)):Prop:=∀p∈ps,p.1≤4294967295∧0≤Y4 p.1 nq∧Y4 p.1 nq+(p.2.length:Int)≤2048
theorem Z5r:B8.length=2048:=List.length_replicate
theorem X8l {nq:Nat}{ps:List (Nat×List UInt8)}{sq:Nat}{xs:List UInt8}{nq':Nat}{ps':List (Nat×List UInt8)}{told:List UInt8}(h:Y3t nq ps sq xs nq' ps' told) (hq:nq≤4294967295) (hl:ps.length≤8) (hps:J4e nq ps):
  nq'≤4294967295∧ps'.length≤8∧J4e nq' ps'∧told.length≤2048:=by
 have same:nq≤4294967295∧ps.length≤8∧J4e nq ps∧([]:List UInt8).length≤2048:=⟨hq,hl,hps,by simp⟩;rcases h with⟨_,rfl,rfl,rfl⟩ |⟨_,l,hR,⟨_,rfl,rfl,rfl⟩ |⟨h8,rfl,rfl,rfl⟩⟩
 ·exact same
 ·exact same
 have hml:(P1 (Z4u nq B8 ps) (Y0m (Y4 sq nq)) (T1 (Y4 sq nq) xs)).length=2048:=by rw[Z2e,Z3f,Z5r]
 have hge:=Z8b hR;rw[hml] at hge;have hlen:(T2 nq (Z2n nq l)).length≤8:=by unfold T2;rw[List.length_map];exact h8
 have hmap:∀(n0:Nat) (r:List (Nat×List UInt8)),(∀p∈r,n0≤p.1∧p.1+p.2.length≤2048)→J4e (Y6 nq n0) (T2 nq r):=by
  intro n0 r hr p hp;unfold T2 at hp;obtain⟨q,hq',rfl⟩:=List.mem_map.1 hp;have h1:=hr q hq';have h2:=Y1k nq q.1;have h3:=Y5r (a:=nq) h1.1 (p:=q.1) (by omega);exact⟨by show Y6 nq q.1≤_;omega,by show 0≤Y4 (Y6 nq q.1) (Y6 nq n0);omega,by show Y4 (Y6 nq q.1) (Y6 nq n0)+(q.2.length:Int)≤2048;omega⟩
 rcases l with _ |⟨⟨a,x⟩,r⟩
 ·refine⟨hq,hlen, ?_,by simp[Z4v]⟩
  intro p hp;simp[Z2n,T2] at hp
 ·rw[Z2t,Z0c,Z0z]
  have h0:=hge _ List.mem_cons_self;cases hz:Y6 nq a==nq with
  |true=>
   have ha:a=0:=by
    have:=beq_iff_eq.1 hz
    rwa [Z5q hq (by simp only at h0;omega)] at this
   have ht:=J0j hR;refine⟨by rw[cond_true];have:=Y1k nq x.length;omega,by rw[Z0c,hz] at hlen;exact hlen,hmap _ _ fun p hp=>⟨?_,(hge p (List.mem_cons_of_mem _ hp)).2.2⟩,by rw[cond_true];simp only at h0;omega⟩;have:=ht p hp;omega
  |false=>
   refine⟨hq,by rw[Z0c,hz] at hlen;exact hlen, ?_,by simp⟩;have:=hmap 0 ((a,x)::r) fun p hp=>⟨Nat.zero_le _,(hge p hp).2.2⟩;rw[Z9a hq] at this;exact this
end
section
open Go.RowKit
def Q4r (w:World) (r:Frm×Int) (v:Value) (w':World):Prop:=
 ∃A c,v = .tuple #[.agg #[iz r.1.d,iz r.1.s,iz r.1.t, .slice A r.1.xs.length c],iz r.2]∧w'.ownsRow w.heap.size 5 1 (.slice A r.1.xs.length c) r.1.xs.length (r.1.xs.map bv)∧Below w.heap.size w w'
theorem Z2q:(Tryz.prog.info? 85).map (·.size)=some 4:=by kernel_rfl
theorem Y5s (w:World):(zeroValue 85).run Tryz.prog w = .ok (.agg ([iz 0,iz 0,iz 0,Z2]:List Value).toArray) w:=by kernel_rfl
theorem Y5t (xs:List UInt8) (k m:Nat):(xs.take (k+m)).drop k=(xs.drop k).take m:=by
 rw[List.drop_take,Nat.add_sub_cancel_left]
theorem X5t (y:List UInt8) (n:Nat) (hn:y.length=n) (A:Option Addr) (c:Nat) (w:World) (hx:RB w w.heap.size A y) (hl:n≤140737488351232):
  Calls Tryz.prog 80 #[.slice A n c] w fun e w'=>∃v,e = .returned v∧(∃A' c',v = .slice A' n c'∧w'.ownsRow w.heap.size 5 1 (.slice A' n c') n (y.map bv)∧Below w.heap.size w w'):=
 (J2s y n hn A c w hx hl).mono fun _ _ ⟨A',c',h1,h2,h3⟩=>⟨_,h1,A',c',rfl,h2,h3⟩
theorem Q4s (u:Nat) (h:u<36028797018963968) (x y:Operand) (w:World):(do eqGuard .shl 3 x y (iz u) (.int .u64 8);binOp .shl 3 (iz u) (.int .u64 8):Sem Value).run Tryz.prog w = .ok (iz ((u:Int)*256)) w:=by
 have:IntKind.i64.wrap ((u:Int)*256)=(u:Int)*256:=IntWalk.i64_in _ (by omega);simp[go_sem,this]
theorem J8i (x:UInt8) (w:World):(convert 5 3 (bv x)).run Tryz.prog w = .ok (iz x.toNat) w:=by
 have hx:=x.toNat_lt;have:IntKind.i64.wrap (x.toNat:Int)=(x.toNat:Int):=IntWalk.i64_in _ (by omega);simp[go_sem,this]
theorem Q7d (u:Nat) (x:UInt8) (h:u<36028797018963968) (p q:Operand) (w:World):(do eqGuard .or 3 p q (iz ((u:Int)*256)) (iz x.toNat);binOp .or 3 (iz ((u:Int)*256)) (iz x.toNat):Sem Value).run Tryz.prog w = .ok (iz ((u*256+x.toNat:Nat):Int)) w:=by
 have:=Y9q u x h;simp[go_sem];rw[this];simp
theorem X5u (xs:List UInt8) (n:Nat) (hl:xs.length=n) (A:Option Addr) (c:Nat) (w:World) (hx:RB w w.heap.size A xs) (hn:n≤7):
  Calls Tryz.prog 85 #[.slice A n c] w fun e w'=>e = .returned (iz (ofB xs))∧w=w':=by
 subst hl;go_enter Tryz.func85,Tryz.ntmps85;refine Z9.start 18 [(0, .slice A xs.length c)] rfl rfl ⟨rfl,trivial⟩ ?_;intro a0 H0;refine H0.rg 1 fun a H=>nt ?_;refine H.rg 1 fun a H=>?_;refine H.len gz rfl rfl rfl rfl Tryz.underlying31 fun a H=>?_;refine H.ms 1 fun a H=>nt ?_;replace H:=H.kp [2,5,6,7];refine wp_block ?_;refine Q7 xs.length (fun k a w'=>Z9 a 18 [(2,iz (ofB (xs.take k))),(5, .slice A xs.length c),(6,iz xs.length),(7,iz k)]∧w=w') ⟨H,rfl⟩ ?_;clear H0 H;rintro k a _ hk ⟨H,rfl⟩;refine H.rg 0 fun a H=>?_;by_cases hlt:k<xs.length
 rotate_left
 ·refine H.bb 0 rfl rfl rfl rfl rfl rfl (Q3 _ _ false (by rw[decide_eq_false_iff_not];omega) _ _ _) rfl fun a H=>nt (wp_seq (H.condF rfl ?_))
  refine wp_exit ?_;repeat (with_reducible refine J7 ?_)
  refine X3 (Z0 ?_);refine H.rg 2 fun a H=>nt (wp_ret ?_);repeat with_reducible first |apply Z4 |apply Z5
  have:k=xs.length:=by omega
  subst this;refine bodyPost_ret (results_tmp rfl _ _ _) H.df ⟨?_,rfl⟩;rw[show a.tmps.getD 2 undef=iz (ofB (xs.take xs.length)) from H.at_ 2 _ rfl,List.take_length]
 refine H.bb 0 rfl rfl rfl rfl rfl rfl (Q3 _ _ true (by rw[decide_eq_true_iff];omega) _ _ _) rfl fun a H=>nt (wp_seq (H.condT rfl ?_));refine Z3 (Z0 ?_);obtain⟨b,o,x,rfl,hbB,hxk,hcell⟩:=hx.get hlt;have hs:ofB (xs.take (k+1))=ofB (xs.take k)*256+x.toNat:=by rw[E5 xs k x hxk,Y0x]
 have ht1:ofB (xs.take k)<36028797018963968:=by
  have h1:=Y0e (xs.take k);have h2:(256:Nat)^(xs.take k).length≤256^6:=Nat.pow_le_pow_right (by omega) (by rw[List.length_take];omega);omega
 refine Z8 (fun a w'=>Z9 a 18 [(2,iz ((ofB (xs.take (k+1)):Nat):Int)),(5, .slice (some ⟨b,o,none⟩) xs.length c),(6,iz xs.length),(7,iz k)]∧w=w') ?_ ?_
 ·refine wp_block ?_
  refine H.rg 0 fun a H=>?_;refine H.index gz rfl rfl rfl rfl rfl (U7 31 Tryz.underlying31 (fun _=>by kernel_rfl) b o xs.length c k hlt _) fun a H=>?_;refine H.ld 1 (U3 _ _ _ _ hcell) fun a H=>nt ?_;refine H.rg 1 fun a H=>?_;refine H.bn 1 (Q4s _ ht1 _ _ _) fun a H=>?_;refine H.cv 0 (J8i x _) fun a H=>?_;refine H.bn 1 (Q7d _ x ht1 _ _ _) fun a H=>wpList_nil (Z6 (Z0 ?_));rw[hs];exact⟨H.keep ⟨rfl,rfl,rfl,rfl,trivial⟩,rfl⟩
 ·rintro a _ ⟨H,rfl⟩
  refine H.rg 0 fun a H=>?_;refine H.bb 1 rfl rfl rfl rfl rfl rfl (E7 k (by omega) _ _ _) rfl fun a H=>nt ?_;exact⟨hlt,H.keep ⟨rfl,rfl,rfl,rfl,trivial⟩,rfl⟩
theorem J4f (xs:List UInt8) (n:Nat) (hn:xs.length=n) (A:Option Addr) (c:Nat) (hnc:n≤c) (w:World) (hx:RB w w.heap.size A xs) (hl:n≤140737488351232):
  Calls Tryz.prog 50 #[.slice A n c] w fun e w'=>∃v,e = .returned v∧Q4r w (E6 xs) v w':=by
 go_enter Tryz.func50,Tryz.ntmps50
 refine Z9.start 27 [(0, .slice A n c)] rfl rfl ⟨rfl,trivial⟩ ?_;intro a0 H0;have O0:=X0.start w;refine rl ?_;refine H0.al O0 1 Y5s fun a1 w1 O1 H1=>nt ?_;generalize hg:w.heap.size=g at O1 H1;refine wp_seq (wp_block ?_);refine H1.rg 1 fun a2 H2=>?_;refine H2.len gz rfl rfl rfl rfl Tryz.underlying31 fun a3 H3=>?_;by_cases h14:n<14
 ·refine H3.bb 1 rfl rfl rfl rfl rfl rfl (Q3 _ _ true (by rw[decide_eq_true_iff];omega) _ _ _) rfl fun a4 H4=>nt (H4.condT rfl ?_)
  refine rl ?_;refine H4.any (w':=w1) gz rfl rfl (.agg ([iz 0,iz 0,iz 0,Z2]:List Value).toArray) (by intro cs b h;cases h) (by kernel_rfl) (by kernel_rfl) fun a5 H5=>?_;refine H5.st O1 0 1 (L:=[iz 0,iz 0,iz 0,Z2]) (fun a6 w2 O2 H6=>nt (wp_ret ?_)) Z2q;repeat with_reducible first |apply Z4 |apply Z5
  refine bodyPost_ret (U0 Tryz.results50 _ _ _ (H6.at_ 2 _ rfl) (H6.at_ 3 _ rfl) (O2.get 0 rfl) Tryz.underlying85 rfl _ Z2q rfl) H6.df ⟨_,rfl, ?_⟩;unfold E6;rw[if_pos (by omega)];exact⟨none,0,rfl,World.ownsRow_nil _ _ _ _,hg▸O2.bel⟩
 refine H3.bb 1 rfl rfl rfl rfl rfl rfl (Q3 _ _ false (by rw[decide_eq_false_iff_not];omega) _ _ _) rfl fun a4 H4=>nt (H4.condF rfl ?_);refine H4.rg 1 fun a5 H5=>?_;refine H5.len gz rfl rfl rfl rfl Tryz.underlying31 fun a6 H6=>?_;by_cases h15:1514<n
 ·refine H6.bb 1 rfl rfl rfl rfl rfl rfl (S0 _ _ true (by rw[decide_eq_true_iff];omega) _ _ _) rfl fun a7 H7=>nt (H7.condT rfl ?_)
  refine rl ?_;refine H7.any (w':=w1) gz rfl rfl (.agg ([iz 0,iz 0,iz 0,Z2]:List Value).toArray) (by intro cs b h;cases h) (by kernel_rfl) (by kernel_rfl) fun a8 H8=>?_;refine H8.st O1 0 1 (L:=[iz 0,iz 0,iz 0,Z2]) (fun a9 w2 O2 H9=>nt (wp_ret ?_)) Z2q;repeat with_reducible first |apply Z4 |apply Z5
  refine bodyPost_ret (U0 Tryz.results50 _ _ _ (H9.at_ 2 _ rfl) (H9.at_ 3 _ rfl) (O2.get 0 rfl) Tryz.underlying85 rfl _ Z2q rfl) H9.df ⟨_,rfl, ?_⟩;unfold E6;rw[if_neg (by omega),if_pos (by omega)];exact⟨none,0,rfl,World.ownsRow_nil _ _ _ _,hg▸O2.bel⟩
 refine H6.bb 1 rfl rfl rfl rfl rfl rfl (S0 _ _ false (by rw[decide_eq_false_iff_not];omega) _ _ _) rfl fun a7 H7=>nt (H7.condF rfl (Z3 (Z6 (Z0 ?_))));replace H7:=H7.kp [0,2];have l1:(xs.take 6).length=6:=by rw[List.length_take];omega
 have l2:((xs.drop 6).take 6).length=6:=by rw[List.length_take,List.length_drop];omega
 have l3:((xs.drop 12).take 2).length=2:=by rw[List.length_take,List.length_drop];omega
 have l4:(xs.drop 14).length=n-14:=by rw[List.length_drop];omega
 have bl:∀{w':World},X0 w g [(g,[iz 0,iz 0,iz 0,Z2])] w'→Below w.heap.size w w':=fun h=>hg▸h.bel;have r2:∀{w':World},Below w.heap.size w w'→RB w' w'.heap.size (if c=6 then A else A.map (·.add 6)) ((xs.drop 6).take 6):=fun h=>by
  have:=((hx.next h).take 12).cut (k:=6) (cap:=c) (by rw[List.length_take];omega) (by rw[List.length_take];omega);rw[show (12:Nat)=6+6 from rfl,Y5t] at this;exact this
 have r3:∀{w':World},Below w.heap.size w w'→RB w' w'.heap.size (if c=12 then A else A.map (·.add 12)) ((xs.drop 12).take 2):=fun h=>by
  have:=((hx.next h).take 14).cut (k:=12) (cap:=c) (by rw[List.length_take];omega) (by rw[List.length_take];omega);rw[show (14:Nat)=12+2 from rfl,Y5t] at this;exact this
 have r4:∀{w':World},Below w.heap.size w w'→RB w' w'.heap.size (if c=14 then A else A.map (·.add 14)) (xs.drop 14):=fun h=>(hx.next h).cut (k:=14) (cap:=c) (by omega) (by omega);refine H7.sg (fun w'=>X0 w g [(g,[iz 0,iz 0,iz 0,Z2])] w') O1.drew [0,2]
  [ec 0 14 (.slice A n c),ec 1 15 (.slice A 6 c),ec 2 16 (iz (V4 xs 0 6)),ec 3 17 (.slice A n c),ec 4 18 (.slice (if c=6 then A else A.map (·.add 6)) 6 (c-6)),ec 5 19 (iz (V4 xs 6 6)),ec 6 20 (.slice A n c),ec 7 21 (.slice (if c=12 then A else A.map (·.add 12)) 2 (c-12)),ec 8 22 (iz (V4 xs 12 2)),
   ec 9 23 (.slice A n c),ec 10 24 (.slice (if c=14 then A else A.map (·.add 14)) (n-14) (c-14)),ec 14 3 (iz 0)] rfl ?_
 refine St.call 11 ⟨jm,jh fun _=>Z4t A n c 6 (by omega) hnc _,jq fun w' h=>X5u (xs.take 6) 6 l1 A c w' ((hx.next (bl h)).take 6) (by decide),jm,js2 fun _=>N0 A n c 6 12 (by decide) (by omega) hnc _,jq fun w' h=>X5u _ 6 l2 _ _ w' (r2 (bl h)) (by decide),jm,js2 fun _=>N0 A n c 12 14 (by decide) (by omega) hnc _,jq fun w' h=>X5u _ 2 l3 _ _ w' (r3 (bl h)) (by decide),jm,js1 fun _=>Z7d A n c 14 (by omega) hnc _,jm,trivial⟩
  (fun wy h=>X5t (xs.drop 14) (n-14) l4 _ (c-14) wy (r4 (bl h)) (by omega)) ?_
 rintro wy _ wz hh ⟨A1,c1,rfl,hO,hb⟩;have hgy:g<wy.heap.size:=hh.lt 0 rfl;have Oz:=hh.call hb;clear hb;generalize wy.heap.size=bb at hO hgy;refine nx (fun w'=>X0 w g [(g,[iz 0,iz 0,iz 0,Z2])] w'∧w'.ownsRow bb 5 1 (.slice A1 (n-14) c1) (n-14) ((xs.drop 14).map bv)) [ec 12 26 (.agg ([iz (V4 xs 0 6),iz (V4 xs 6 6),iz (V4 xs 12 2), .slice A1 (n-14) c1]:List Value).toArray)] [] ⟨Oz,hO⟩ ?_;refine St.sto 13 ⟨ja (fun _=>by kernel_rfl),jm,trivial⟩ ?_;rintro a8 wu H8 _ ⟨Ou,hOu⟩;obtain⟨w',hr,hg2,hs2,hC2⟩:=(Ou.get 0 rfl).sto (L:=[iz (V4 xs 0 6),iz (V4 xs 6 6),iz (V4 xs 12 2), .slice A1 (n-14) c1]) Z2q rfl rfl rfl;refine⟨w',Q6 rfl (H8.ev rfl) (H8.ev rfl) hr,nx0 (fun w'=>X0 w g [(g,[iz (V4 xs 0 6),iz (V4 xs 6 6),iz (V4 xs 12 2), .slice A1 (n-14) c1])] w'∧w'.ownsRow bb 5 1 (.slice A1 (n-14) c1) (n-14) ((xs.drop 14).map bv)) [] [] ⟨Ou.store 0 rfl hg2 hs2 hC2,hOu.kept hg2 (.inr (Q1 hOu (.inl hgy)).symm)⟩ ?_⟩;refine St.fin ⟨jm,trivial⟩ ?_ (hF:=.inl rfl);rintro a9 w3 H9 _ ⟨O3,hO3⟩;refine Z0 (wp_ret ?_);repeat with_reducible first |apply Z4 |apply Z5
 refine bodyPost_ret (U0 Tryz.results50 _ _ _ (H9.at_ 2 _ rfl) (H9.at_ 3 _ rfl) (O3.get 0 rfl) Tryz.underlying85 rfl _ Z2q rfl) H9.df ⟨_,rfl, ?_⟩;unfold E6;rw[if_neg (by omega),if_neg (by omega)];refine⟨A1,c1, ?_, ?_,hg▸O3.bel⟩
 ·simp only[l4]
 ·simp only[l4]
  exact V2 hO3 (by omega)
end
section
open Go.Shelf
def Sh.lays119_ren:Go.Shelf.Ren:=⟨fun |119=>182 |n=>n,fun |21=>21 |4=>4 |n=>n,fun |n=>n⟩
theorem Sh.lays119:Go.Proofs.Lays.n119 Tryz.prog Sh.lays119_ren:={
 mixed:=by kernel_rfl
 f119:=Tryz.func182.trans (congrArg some (by kernel_rfl))
 t4:=Tryz.underlying4
 a4:=Tryz.isAgg4
 z4:=Tryz.sizeOf4
 v4:=Tryz.zeroValue4
 t21:=Tryz.underlying21
 a21:=Tryz.isAgg21
 z21:=Tryz.sizeOf21
 v21:=Tryz.zeroValue21 }
theorem Sh.utf8_ValidRune (r:Int) (w:World):
  Calls Tryz.prog 182 #[.int .i32 r] w fun e w'=>e = .returned (.bool (Lib.validRune r))∧w'=w:=Any.utf8_ValidRune Sh.lays119 r w
def Sh.lays137_ren:Go.Shelf.Ren:=⟨fun |137=>181 |217=>177 |266=>183 |n=>n,fun |9=>9 |5=>5 |3=>3 |n=>n,fun |n=>n⟩
theorem Sh.lays137:Go.Proofs.Lays.n137 Tryz.prog Sh.lays137_ren:={
 mixed:=by kernel_rfl
 f137:=Tryz.func181.trans (congrArg some (by kernel_rfl))
 f217:=Tryz.func177.trans (congrArg some (by kernel_rfl))
 f266:=Tryz.func183.trans (congrArg some (by kernel_rfl))
 t3:=Tryz.underlying3
 a3:=Tryz.isAgg3
 z3:=Tryz.sizeOf3
 v3:=Tryz.zeroValue3
 t5:=Tryz.underlying5
 a5:=Tryz.isAgg5
 z5:=Tryz.sizeOf5
 v5:=Tryz.zeroValue5
 t9:=Tryz.underlying9
 a9:=Tryz.isAgg9
 z9:=Tryz.sizeOf9
 v9:=Tryz.zeroValue9 }
open Go.RowKit in
theorem Sh.strings_IndexByte (s:ByteArray) (c:Int) (w:World):
  Calls Tryz.prog 181 #[.string s, .int .u8 c] w fun e w'=>e = .returned (.int .i64 (Lib.indexByte s.data.toList c.toNat.toUInt8))∧w'=w:=Any.strings_IndexByte Sh.lays137 s c w
open Go.RowKit Go.Lib in
open Go.RowKit Go.Lib in
open Go.RowKit Go.Lib in
open Go.RowKit Go.Lib in
def Sh.lays219_ren:Go.Shelf.Ren:=⟨fun |219=>172 |217=>177 |225=>178 |224=>179 |267=>180 |266=>183 |314=>184 |n=>n,fun |9=>9 |3=>3 |4=>4 |5=>5 |46=>125 |146=>223 |51=>33 |n=>n,fun |1=>2 |n=>n⟩
open Go.RowKit Go.Lib in
open Go.RowKit Go.Lib in
open Go.RowKit Go.Lib in
open Go.RowKit Go.Lib in
def Sh.lays144_ren:Go.Shelf.Ren:=⟨fun |144=>168 |143=>170 |219=>172 |217=>177 |225=>178 |224=>179 |267=>180 |266=>183 |314=>184 |n=>n,fun |9=>9 |4=>4 |3=>3 |5=>5 |46=>125 |146=>223 |51=>33 |n=>n,fun |1=>2 |n=>n⟩
theorem Sh.lays144:Go.Proofs.Lays.n144 Tryz.prog Sh.lays144_ren:={
 mixed:=by kernel_rfl
 f143:=Tryz.func170.trans (congrArg some (by kernel_rfl))
 f144:=Tryz.func168.trans (congrArg some (by kernel_rfl))
 f217:=Tryz.func177.trans (congrArg some (by kernel_rfl))
 f219:=Tryz.func172.trans (congrArg some (by kernel_rfl))
 f224:=Tryz.func179.trans (congrArg some (by kernel_rfl))
 f225:=Tryz.func178.trans (congrArg some (by kernel_rfl))
 f266:=Tryz.func183.trans (congrArg some (by kernel_rfl))
 f267:=Tryz.func180.trans (congrArg some (by kernel_rfl))
 f314:=Tryz.func184.trans (congrArg some (by kernel_rfl))
 t3:=Tryz.underlying3
 a3:=Tryz.isAgg3
 z3:=Tryz.sizeOf3
 v3:=Tryz.zeroValue3
 t4:=Tryz.underlying4
 a4:=Tryz.isAgg4
 z4:=Tryz.sizeOf4
 v4:=Tryz.zeroValue4
 t5:=Tryz.underlying5
 a5:=Tryz.isAgg5
 z5:=Tryz.sizeOf5
 v5:=Tryz.zeroValue5
 t9:=Tryz.underlying9
 a9:=Tryz.isAgg9
 z9:=Tryz.sizeOf9
 v9:=Tryz.zeroValue9
 t46:=Tryz.underlying125
 a46:=Tryz.isAgg125
 z46:=Tryz.sizeOf125
 v46:=Tryz.zeroValue125
 t51:=Tryz.underlying33
 a51:=Tryz.isAgg33
 z51:=Tryz.sizeOf33
 v51:=Tryz.zeroValue33
 t146:=Tryz.underlying223
 a146:=Tryz.isAgg223
 z146:=Tryz.sizeOf223
 v146:=Tryz.zeroValue223
 g1:=by kernel_rfl }
open Go.RowKit Go.Lib in
theorem Sh.strings_Contains_one (s:ByteArray) (c:UInt8) (w:World):
  Calls Tryz.prog 168 #[.string s, .string ⟨#[c]⟩] w fun e w'=>e = .returned (.bool (decide (0≤Lib.indexByte s.data.toList c)))∧w'=w:=Any.strings_Contains_one Sh.lays144 s c w
open Go.RowKit Go.Lib in
open Go.RowKit Go.Lib in
open Go.RowKit Go.Lib in
open Go.RowKit Go.Lib in
def Sh.lays152_ren:Go.Shelf.Ren:=⟨fun |152=>173 |137=>181 |119=>182 |224=>179 |225=>178 |217=>177 |266=>183 |n=>n,fun |9=>9 |21=>21 |3=>3 |4=>4 |5=>5 |0=>0 |46=>125 |n=>n,fun |n=>n⟩
theorem Sh.lays152:Go.Proofs.Lays.n152 Tryz.prog Sh.lays152_ren:={
 mixed:=by kernel_rfl
 f119:=Tryz.func182.trans (congrArg some (by kernel_rfl))
 f137:=Tryz.func181.trans (congrArg some (by kernel_rfl))
 f152:=Tryz.func173.trans (congrArg some (by kernel_rfl))
 f217:=Tryz.func177.trans (congrArg some (by kernel_rfl))
 f224:=Tryz.func179.trans (congrArg some (by kernel_rfl))
 f225:=Tryz.func178.trans (congrArg some (by kernel_rfl))
 f266:=Tryz.func183.trans (congrArg some (by kernel_rfl))
 t0:=Tryz.underlying0
 a0:=Tryz.isAgg0
 z0:=Tryz.sizeOf0
 v0:=Tryz.zeroValue0
 t3:=Tryz.underlying3
 a3:=Tryz.isAgg3
 z3:=Tryz.sizeOf3
 v3:=Tryz.zeroValue3
 t4:=Tryz.underlying4
 a4:=Tryz.isAgg4
 z4:=Tryz.sizeOf4
 v4:=Tryz.zeroValue4
 t5:=Tryz.underlying5
 a5:=Tryz.isAgg5
 z5:=Tryz.sizeOf5
 v5:=Tryz.zeroValue5
 t9:=Tryz.underlying9
 a9:=Tryz.isAgg9
 z9:=Tryz.sizeOf9
 v9:=Tryz.zeroValue9
 t21:=Tryz.underlying21
 a21:=Tryz.isAgg21
 z21:=Tryz.sizeOf21
 v21:=Tryz.zeroValue21
 t46:=Tryz.underlying125
 a46:=Tryz.isAgg125
 z46:=Tryz.sizeOf125
 v46:=Tryz.zeroValue125 }
open Go.RowKit Go.Lib in
theorem Sh.strings_IndexRune_ascii (s:ByteArray) (r:Int) (w:World) (h0:0≤r) (h1:r<128):
  Calls Tryz.prog 173 #[.string s, .int .i32 r] w fun e w'=>e = .returned (.int .i64 (Lib.indexByte s.data.toList r.toNat.toUInt8))∧w'=w:=Any.strings_IndexRune_ascii Sh.lays152 s r w h0 h1
def Sh.lays226_ren:Go.Shelf.Ren:=⟨fun |226=>174 |n=>n,fun |3=>3 |4=>4 |n=>n,fun |n=>n⟩
theorem Sh.lays226:Go.Proofs.Lays.n226 Tryz.prog Sh.lays226_ren:={
 mixed:=by kernel_rfl
 f226:=Tryz.func174.trans (congrArg some (by kernel_rfl))
 t3:=Tryz.underlying3
 a3:=Tryz.isAgg3
 z3:=Tryz.sizeOf3
 v3:=Tryz.zeroValue3
 t4:=Tryz.underlying4
 a4:=Tryz.isAgg4
 z4:=Tryz.sizeOf4
 v4:=Tryz.zeroValue4 }
open Go.RowKit Go.Lib in
theorem Sh.strings_shouldUseASCIISet (n:Int) (w:World):
  Calls Tryz.prog 174 #[.int .i64 n] w fun e w'=>e = .returned (.bool (decide (8<n)))∧w'=w:=Any.strings_shouldUseASCIISet Sh.lays226 n w
def Sh.lays153_ren:Go.Shelf.Ren:=⟨fun |153=>171 |152=>173 |226=>174 |227=>175 |228=>176 |137=>181 |119=>182 |224=>179 |225=>178 |217=>177 |266=>183 |n=>n,fun |9=>9 |3=>3 |4=>4 |5=>5 |21=>21 |117=>216 |116=>215 |0=>0 |46=>125 |124=>222 |n=>n,fun |n=>n⟩
theorem Sh.lays153:Go.Proofs.Lays.n153 Tryz.prog Sh.lays153_ren:={
 mixed:=by kernel_rfl
 f119:=Tryz.func182.trans (congrArg some (by kernel_rfl))
 f137:=Tryz.func181.trans (congrArg some (by kernel_rfl))
 f152:=Tryz.func173.trans (congrArg some (by kernel_rfl))
 f153:=Tryz.func171.trans (congrArg some (by kernel_rfl))
 f217:=Tryz.func177.trans (congrArg some (by kernel_rfl))
 f224:=Tryz.func179.trans (congrArg some (by kernel_rfl))
 f225:=Tryz.func178.trans (congrArg some (by kernel_rfl))
 f226:=Tryz.func174.trans (congrArg some (by kernel_rfl))
 f227:=Tryz.func175.trans (congrArg some (by kernel_rfl))
 f228:=Tryz.func176.trans (congrArg some (by kernel_rfl))
 f266:=Tryz.func183.trans (congrArg some (by kernel_rfl))
 t0:=Tryz.underlying0
 a0:=Tryz.isAgg0
 z0:=Tryz.sizeOf0
 v0:=Tryz.zeroValue0
 t3:=Tryz.underlying3
 a3:=Tryz.isAgg3
 z3:=Tryz.sizeOf3
 v3:=Tryz.zeroValue3
 t4:=Tryz.underlying4
 a4:=Tryz.isAgg4
 z4:=Tryz.sizeOf4
 v4:=Tryz.zeroValue4
 t5:=Tryz.underlying5
 a5:=Tryz.isAgg5
 z5:=Tryz.sizeOf5
 v5:=Tryz.zeroValue5
 t9:=Tryz.underlying9
 a9:=Tryz.isAgg9
 z9:=Tryz.sizeOf9
 v9:=Tryz.zeroValue9
 t21:=Tryz.underlying21
 a21:=Tryz.isAgg21
 z21:=Tryz.sizeOf21
 v21:=Tryz.zeroValue21
 t46:=Tryz.underlying125
 a46:=Tryz.isAgg125
 z46:=Tryz.sizeOf125
 v46:=Tryz.zeroValue125
 t116:=Tryz.underlying215
 a116:=Tryz.isAgg215
 z116:=Tryz.sizeOf215
 t117:=Tryz.underlying216
 a117:=Tryz.isAgg216
 z117:=Tryz.sizeOf216
 v117:=Tryz.zeroValue216
 t124:=Tryz.underlying222
 a124:=Tryz.isAgg222
 z124:=Tryz.sizeOf222
 v124:=Tryz.zeroValue222 }
open Go.RowKit Go.Lib in
open Go.RowKit Go.Lib in
open Go.RowKit Go.Lib in
open Go.RowKit Go.Lib in
open Go.RowKit Go.Lib in
open Go.RowKit Go.Lib in
theorem Sh.strings_IndexAny_long (hv116:∀w,(zeroValue 215).run Tryz.prog w = .ok (.agg (Array.replicate 256 (.bool false))) w) (s chars:ByteArray) (w:World) (h2:2≤chars.size) (h8:8<s.size) (hs:s.size<4294967281) (hcs:chars.size<4294967281) (hascii:∀(j:Nat) b,chars.data.toList[j]? = some b→b.toNat<128):
  Calls Tryz.prog 171 #[.string s, .string chars] w fun e w'=>e = .returned (.int .i64 (Lib.indexAny s.data.toList chars.data.toList))∧w'=((w.alloc (.cells (Lib.setCells chars.data.toList) 215)).alloc (.cells (Lib.setCells chars.data.toList) 215)):=Any.strings_IndexAny_long Sh.lays153 hv116 (by kernel_rfl) s chars w h2 h8 hs hcs hascii
open Go.RowKit Go.Lib in
open Go.RowKit Go.Lib in
open Go.RowKit Go.Lib in
open Go.RowKit Go.Lib in
def Sh.lays196_ren:Go.Shelf.Ren:=⟨fun |196=>105 |259=>130 |n=>n,fun |9=>9 |4=>4 |3=>3 |5=>5 |12=>12 |119=>186 |0=>0 |46=>125 |139=>189 |138=>188 |53=>206 |n=>n,fun |3=>0 |4=>1 |n=>n⟩
theorem Sh.lays196:Go.Proofs.Lays.n196 Tryz.prog Sh.lays196_ren:={
 mixed:=by kernel_rfl
 f196:=Tryz.func105.trans (congrArg some (by kernel_rfl))
 f259:=Tryz.func130.trans (congrArg some (by kernel_rfl))
 t0:=Tryz.underlying0
 a0:=Tryz.isAgg0
 z0:=Tryz.sizeOf0
 v0:=Tryz.zeroValue0
 t3:=Tryz.underlying3
 a3:=Tryz.isAgg3
 z3:=Tryz.sizeOf3
 v3:=Tryz.zeroValue3
 t4:=Tryz.underlying4
 a4:=Tryz.isAgg4
 z4:=Tryz.sizeOf4
 v4:=Tryz.zeroValue4
 t5:=Tryz.underlying5
 a5:=Tryz.isAgg5
 z5:=Tryz.sizeOf5
 v5:=Tryz.zeroValue5
 t9:=Tryz.underlying9
 a9:=Tryz.isAgg9
 z9:=Tryz.sizeOf9
 v9:=Tryz.zeroValue9
 t12:=Tryz.underlying12
 a12:=Tryz.isAgg12
 z12:=Tryz.sizeOf12
 v12:=Tryz.zeroValue12
 t46:=Tryz.underlying125
 a46:=Tryz.isAgg125
 z46:=Tryz.sizeOf125
 v46:=Tryz.zeroValue125
 t53:=Tryz.underlying206
 a53:=Tryz.isAgg206
 z53:=Tryz.sizeOf206
 v53:=Tryz.zeroValue206
 t119:=Tryz.underlying186
 a119:=Tryz.isAgg186
 z119:=Tryz.sizeOf186
 t138:=Tryz.underlying188
 a138:=Tryz.isAgg188
 z138:=Tryz.sizeOf188
 v138:=Tryz.zeroValue188
 t139:=Tryz.underlying189
 a139:=Tryz.isAgg189
 z139:=Tryz.sizeOf189
 v139:=Tryz.zeroValue189
 g3:=by kernel_rfl
 g4:=by kernel_rfl }
open Go.RowKit Go.Lib in
theorem Sh.utf8_ValidString (s:ByteArray) (w:World) (hs:s.size≤9223372036854775807) (hT:Lib.Utf8Tabs (Sh.lays196_ren.g 3) (Sh.lays196_ren.g 4) w):
  Calls Tryz.prog 105 #[.string s] w fun e w'=>e = .returned (.bool (Lib.validD s.data.toList))∧Below w.heap.size w w':=Any.utf8_ValidString Sh.lays196 s w hs hT
end
section
open Go.RowKit
abbrev sb (s:ByteArray):List UInt8:=s.data.toList
theorem Z0p (s:ByteArray):(sb s).length=s.size:=by simp[sb]
theorem Y3n (s:ByteArray):Lib.strCells s=(sb s).map bv:=rfl
theorem Y1o {P:Program}{w0 w:World}{ops:Array Oper}{rest:List Oper}{o:Oper}{a:Act}{Q:Exit→Act→World→Prop}(B:Nat) (hb:Below B w0 w) (hgd:o.guard=none) (s x:Operand) (t u:TypeId)
  (ho:o.op = .call { callee:=.builtin .append,args:=#[s,x],argTypes:=#[t,u] })
  (base:Nat) (e:TypeId) (ht:P.underlying t=some (.slice e)) (hu:P.underlying u=some .string) (hi:(P.info? e).map (fun i=>(i.zero,i.size,i.bytes))=some (some (.int .u8 0),1,1))
  (v:Value) (n:Nat) (xs:List UInt8) (hs:a.eval s=v) (hown:w.ownsRow base e 1 v n (xs.map bv)) (str:ByteArray) (hx:a.eval x = .string str)
  (hn:n+str.size≤140737488355328) (hbase:base≤w.heap.size) (hB:B≤base)
  (h:∀A' c' w',w'.ownsRow base e 1 (.slice A' (n+str.size) c') (n+str.size) ((xs++sb str).map bv)→Below B w0 w'→wpList P ops Q rest (a.put o.dst (.slice A' (n+str.size) c')) w'):
  wpList P ops Q (o::rest) a w:=by
 obtain⟨i0,hi0,hz0,hz1,hz2⟩:=info_parts hi;refine Lib.wpList_append_own_string _ hgd s x t u ho base e i0 ht hu hi0 hz0 hz1 hz2 v n _ hs hown str hx (by unfold maxLen;omega) hn hbase ?_;intro v' w' hown' hg _;obtain⟨A,c,rfl,_,_⟩:=V3 hown';refine h A c w' (by rw[List.map_append,←Y3n];exact hown') (hb.grown hg (Nat.le_trans hB hbase) ?_);intro k hk;exact Nat.le_trans hB (hown.lt k hk).1
def V6 (n l m:Int):Bool:=decide (l≤n)&&decide (n≤m)
theorem Q5 {n l m:Int}:V6 n l m=true↔l≤n∧n≤m:=by simp[V6]
theorem P7 (n l m:Int) (w:World):Calls Tryz.prog 151 #[.int .i64 n, .int .i64 l, .int .i64 m] w fun e w'=>e = .returned (.bool (V6 n l m))∧w=w':=by
 by_cases h1:l≤n
 ·by_cases h2:n≤m
  ·have H:=Lib.hid (Q5.2 ⟨h1,h2⟩:V6 n l m=true)
   go_enter Tryz.func151,Tryz.ntmps151
   go_wp2
   go_ret
   exact⟨by rw[H.out];rfl,rfl⟩
  ·have H:=Lib.hid (Bool.eq_false_iff.2 fun h=>h2 (Q5.1 h).2:V6 n l m=false)
   go_enter Tryz.func151,Tryz.ntmps151
   go_wp2
   go_ret
   exact⟨by rw[H.out];rfl,rfl⟩
 ·have H:=Lib.hid (Bool.eq_false_iff.2 fun h=>h1 (Q5.1 h).1:V6 n l m=false)
  go_enter Tryz.func151,Tryz.ntmps151
  go_wp2
  go_ret
  exact⟨by rw[H.out];rfl,rfl⟩
theorem X2o (n:Int) (w:World):Calls Tryz.prog 74 #[.int .i64 n] w fun e w'=>e = .returned (.bool (V6 n 1 65535))∧w=w':=by
 by_cases h1:(1:Int)≤n
 ·by_cases h2:n≤65535
  ·have H:=Lib.hid (Q5.2 ⟨h1,h2⟩:V6 n 1 65535=true)
   go_enter Tryz.func74,Tryz.ntmps74
   go_wp2
   go_ret
   exact⟨by rw[H.out];rfl,rfl⟩
  ·have H:=Lib.hid (Bool.eq_false_iff.2 fun h=>h2 (Q5.1 h).2:V6 n 1 65535=false)
   go_enter Tryz.func74,Tryz.ntmps74
   go_wp2
   go_ret
   exact⟨by rw[H.out];rfl,rfl⟩
 ·have H:=Lib.hid (Bool.eq_false_iff.2 fun h=>h1 (Q5.1 h).1:V6 n 1 65535=false)
  go_enter Tryz.func74,Tryz.ntmps74
  go_wp2
  go_ret
  exact⟨by rw[H.out];rfl,rfl⟩
theorem Z9s (n m:Int) (w:World):Calls Tryz.prog 24 #[.int .i64 n, .int .i64 m] w fun e w'=>e = .returned (.bool (V6 n 0 m))∧w=w':=by
 by_cases h1:0≤n
 ·by_cases h2:n≤m
  ·have H:=Lib.hid (Q5.2 ⟨h1,h2⟩:V6 n 0 m=true)
   go_enter Tryz.func24,Tryz.ntmps24
   go_wp2
   go_ret
   exact⟨by rw[H.out];rfl,rfl⟩
  ·have H:=Lib.hid (Bool.eq_false_iff.2 fun h=>h2 (Q5.1 h).2:V6 n 0 m=false)
   go_enter Tryz.func24,Tryz.ntmps24
   go_wp2
   go_ret
   exact⟨by rw[H.out];rfl,rfl⟩
 ·have H:=Lib.hid (Bool.eq_false_iff.2 fun h=>h1 (Q5.1 h).1:V6 n 0 m=false)
  go_enter Tryz.func24,Tryz.ntmps24
  go_wp2
  go_ret
  exact⟨by rw[H.out];rfl,rfl⟩
theorem J8j (b:Bool) (n:Int) (w:World):Calls Tryz.prog 161 #[.bool b, .int .i64 n] w fun e w'=>e = .returned (.int .i64 (if b then n else 0))∧w=w':=by
 cases b;all_goals
  go_enter Tryz.func161,Tryz.ntmps161
  go_wp2
  go_ret
  exact⟨rfl,rfl⟩
theorem Q1v (b:Bool) (n:Int) (w:World):Calls Tryz.prog 76 #[.bool b, .int .u8 n] w fun e w'=>e = .returned (.int .u8 (if b then n else 0))∧w=w':=by
 cases b;all_goals
  go_enter Tryz.func76,Tryz.ntmps76
  go_wp2
  go_ret
  exact⟨rfl,rfl⟩
theorem Q1w (v:Nat) (hv:v≤65535):(#[Value.int .u8 ((v:Int)/256), .int .u8 ((v:Int)%256)]:Array Value).toList=(U1 2 v).map bv:=by
 have h1:=J7q v hv;have h2:=J7r v;simp only[U1,List.map,bv,Nat.pow_one,Nat.pow_zero,Nat.div_one,h1,h2]
theorem X8m (base:Nat) (xs:List UInt8) (m:Nat) (A:Option Addr) (c:Nat) (vI:Int) (v:Nat) (hve:vI=(v:Int)) (hv:v≤65535) (w:World)
  (hown:w.ownsRow base 5 1 (.slice A m c) m (xs.map bv)) (hbase:base≤w.heap.size) (hn:m≤140737488351232):
  Calls Tryz.prog 163 #[.slice A m c, .int .i64 vI] w fun e w'=>∃A' c',e = .returned (.slice A' (m+2) c')∧w'.ownsRow base 5 1 (.slice A' (m+2) c') (m+2) ((xs++U1 2 v).map bv)∧Below base w w':=by
 subst hve;have HO:=Lib.hid (Y1 hown (G0 w (.cells #[.int .u8 ((v:Int)/256), .int .u8 ((v:Int)%256)] 5)));have HR:=Lib.hid (RB.lit w 5 #[.int .u8 ((v:Int)/256), .int .u8 ((v:Int)%256)] (0,0) (U1 2 v) (Q1w v hv));have HB:=Lib.hid ((Below.refl base w).alloc hbase (.cells #[.int .u8 ((v:Int)/256), .int .u8 ((v:Int)%256)] 5));have hvI:(v:Int)≤65535:=by omega
 clear hown;go_enter Tryz.func163,Tryz.ntmps163
 go_wp2_with (at_builtin;refine X6 base HB.out rfl _ _ 31 rfl base 5 Tryz.underlying31 J4 _ _ xs (by exact rfl) HO.out (some ⟨w.heap.size,0,none⟩) 2 2 (U1 2 v) rfl (by exact rfl) HR.out (by omega) (by simp;omega) (Nat.le_refl _) ?_;intro A' c' w' hown' hb')
 go_ret
 exact⟨A',c',rfl,hown',hb'⟩
theorem J4g (base:Nat) (xs:List UInt8) (m:Nat) (A:Option Addr) (c:Nat) (s:ByteArray) (hs:s.size≤65535) (w:World)
  (hown:w.ownsRow base 5 1 (.slice A m c) m (xs.map bv)) (hbase:base≤w.heap.size) (hn:m≤140737488251232):
  Calls Tryz.prog 162 #[.slice A m c, .string s] w fun e w'=>∃A' c',e = .returned (.slice A' (m+2+s.size) c')∧w'.ownsRow base 5 1 (.slice A' (m+2+s.size) c') (m+2+s.size) ((xs++U1 2 s.size++sb s).map bv)∧Below base w w':=by
 have K1:=Lib.hid (X8m base xs m A c (s.size:Int) s.size rfl hs w hown hbase (by omega));clear hown;go_enter Tryz.func162,Tryz.ntmps162
 go_wp2_with fail
 (with_reducible refine K1.out.mono ?_)
 rintro _ w1 ⟨A1,c1,rfl,ho1,hb1⟩;have hs1:base≤w1.heap.size:=Nat.le_trans hbase hb1.size
 go_wp2_with (at_builtin;apply Y1o base hb1 rfl _ _ 31 9 rfl base 5 Tryz.underlying31 Tryz.underlying9 J4 _ _ _ ?_ ho1 s ?_ ?_ hs1 (Nat.le_refl _) ?_;exact rfl;exact rfl;omega;intro A' c' w' hown' hb')
 go_ret
 exact⟨A',c',rfl,hown',hb'⟩
end
section
open Go.RowKit
def Q9:List UInt8→Bool
 |[]=>true
 |x::xs=>if x==43||x==35 then false else Q9 xs
theorem Y4c (s:ByteArray) (k:Nat) (h:k<s.size):(sb s).drop k=s[k]::(sb s).drop (k+1):=by
 rw[List.drop_eq_getElem_cons (by rw[Z0p];exact h)];rfl
theorem Y4d (u v:UInt8):((u.toNat:Int)=(v.toNat:Int))↔u=v:=by
 constructor
 ·intro h
  exact UInt8.toNat_inj.1 (by omega)
 ·rintro rfl
  rfl
theorem Y8g {xs zs ys:List UInt8}{u:UInt8}(hf:Q9 zs=Q9 xs) (hd:zs=u::ys) (h:(u.toNat:Int)=43∨(u.toNat:Int)=35):Q9 xs=false:=by
 rw[←hf,hd,Q9];rcases h with h |h
 ·rw[(Y4d u 43).1 h];rfl
 ·rw[(Y4d u 35).1 h];rfl
theorem X5v {xs zs ys:List UInt8}{u:UInt8}(hf:Q9 zs=Q9 xs) (hd:zs=u::ys) (h1:¬(u.toNat:Int)=43) (h2:¬(u.toNat:Int)=35):Q9 ys=Q9 xs:=by
 rw[←hf,hd,Q9];have a:(u==43)=false:=by simpa using fun e=>h1 (by rw[e];rfl)
 have b:(u==35)=false:=by simpa using fun e=>h2 (by rw[e];rfl)
 rw[a,b];rfl
theorem J0k {xs zs:List UInt8}(hf:Q9 zs=Q9 xs) (hd:zs=[]):Q9 xs=true:=by
 rw[←hf,hd];rfl
theorem J4h (s:ByteArray) (hs:s.size≤140737488351232) (w:World):
  Calls Tryz.prog 73 #[.string s] w fun e w'=>e = .returned (.bool (Q9 (sb s)))∧w=w':=by
 have HF:=Lib.hid (show Q9 ((sb s).drop 0)=Q9 (sb s) from rfl);go_enter Tryz.func73,Tryz.ntmps73
 go_wp2
 go_loop [2,3] (fun v i=>∃k:Nat,i = .int .i64 k∧v = .bool false∧k≤s.size∧Hid (Q9 ((sb s).drop k)=Q9 (sb s))) (fun _ i=>s.size-(intOf i).toNat)
 case atStart=>exact⟨0,rfl,rfl,Nat.zero_le _,HF⟩
 case round=>
  obtain⟨k,rfl,rfl,hk,hf⟩:=hrel;by_cases hlt:k<s.size
  ·have hd:=Lib.hid (Y4c s k hlt)
   by_cases h1:(s[k].toNat:Int)=43
   ·have HP:=Lib.hid (Y8g hf.out hd.out (Or.inl h1))
    clear hf hd
    go_wp2
    go_ret
    exact⟨by rw[HP.out];rfl,rfl⟩
   ·by_cases h2:(s[k].toNat:Int)=35
    ·have HP:=Lib.hid (Y8g hf.out hd.out (Or.inr h2))
     clear hf hd
     go_wp2
     go_ret
     exact⟨by rw[HP.out];rfl,rfl⟩
    ·have HP:=Lib.hid (X5v hf.out hd.out h1 h2)
     have e1:((s[k].toNat:Int)==43)=false:=by rw[beq_eq_false_iff_ne];exact h1
     have e2:((s[k].toNat:Int)==35)=false:=by rw[beq_eq_false_iff_ne];exact h2
     clear h1 h2;clear hf hd
     go_wp2
     go_round
     case rel=>exact⟨k+1,by go_num,rfl,by omega,HP⟩
     case measure=>simp[intOf];omega
  ·have HP:=Lib.hid (J0k hf.out (List.drop_eq_nil_of_le (by rw[Z0p];omega)))
   clear hf
   go_wp2
   go_ret
   exact⟨by rw[HP.out];rfl,rfl⟩
end
section
open Go.RowKit
def P8:List UInt8→Bool
 |[]=>true
 |x::xs=>if x==0 then false else P8 xs
theorem J4i {xs zs ys:List UInt8}{u:UInt8}(hf:P8 zs=P8 xs) (hd:zs=u::ys) (h:(u.toNat:Int)=0):P8 xs=false:=by
 rw[←hf,hd,P8,(Y4d u 0).1 h];rfl
theorem J0l {xs zs ys:List UInt8}{u:UInt8}(hf:P8 zs=P8 xs) (hd:zs=u::ys) (h1:¬(u.toNat:Int)=0):P8 ys=P8 xs:=by
 rw[←hf,hd,P8];have a:(u==0)=false:=by simpa using fun e=>h1 (by rw[e];rfl)
 rw[a];rfl
theorem J4j {xs zs:List UInt8}(hf:P8 zs=P8 xs) (hd:zs=[]):P8 xs=true:=by
 rw[←hf,hd];rfl
def Z6m (vb:Bool) (s:ByteArray) (l m:Int):Bool:=V6 s.size l m&&(vb&&P8 (sb s))
theorem J4k (s:ByteArray) (hs:s.size≤140737488351232) (l m:Int) (vb:Bool) (w:World)
  (hv:Calls Tryz.prog 105 #[.string s] w fun e w'=>e = .returned (.bool vb)∧Below w.heap.size w w'):
  Calls Tryz.prog 71 #[.string s, .int .i64 l, .int .i64 m] w fun e w'=>e = .returned (.bool (Z6m vb s l m))∧Below w.heap.size w w':=by
 have HF:=Lib.hid (show P8 ((sb s).drop 0)=P8 (sb s) from rfl);have HV:=Lib.hid hv;clear hv;by_cases h1:(s.size:Int)<l
 ·have HP:=Lib.hid (show Z6m vb s l m=false by unfold Z6m;rw[show V6 s.size l m=false from Bool.eq_false_iff.2 fun h=>absurd (Q5.1 h).1 (by omega)];rfl)
  go_enter Tryz.func71,Tryz.ntmps71
  go_wp2
  go_ret
  exact⟨by rw[HP.out];rfl,Below.refl _ _⟩
 by_cases h2:m<(s.size:Int)
 ·have HP:=Lib.hid (show Z6m vb s l m=false by unfold Z6m;rw[show V6 s.size l m=false from Bool.eq_false_iff.2 fun h=>absurd (Q5.1 h).2 (by omega)];rfl)
  go_enter Tryz.func71,Tryz.ntmps71
  go_wp2
  go_ret
  exact⟨by rw[HP.out];rfl,Below.refl _ _⟩
 have HI:Hid (Z6m vb s l m=(vb&&P8 (sb s))):=Lib.hid (by unfold Z6m;rw[Q5.2 ⟨by omega,by omega⟩];rfl);cases vb with
 |false=>
  go_enter Tryz.func71,Tryz.ntmps71
  go_wp2_with (go_at_call 105;(with_reducible refine HV.out.mono ?_);rintro _ w1 ⟨rfl,hb1⟩;have hb2:=Lib.hid hb1;clear hb1)
  go_ret
  exact⟨by rw[HI.out];rfl,hb2.out⟩
 |true=>
  go_enter Tryz.func71,Tryz.ntmps71
  go_wp2_with (go_at_call 105;(with_reducible refine HV.out.mono ?_);rintro _ w1 ⟨rfl,hb1⟩;have hb2:=Lib.hid hb1;clear hb1)
  clear HV
  go_loop [6,7] (fun v i=>∃k:Nat,i = .int .i64 k∧v = .bool false∧k≤s.size∧Hid (P8 ((sb s).drop k)=P8 (sb s))) (fun _ i=>s.size-(intOf i).toNat)
  case atStart=>exact⟨0,rfl,rfl,Nat.zero_le _,HF⟩
  case round=>
   obtain⟨k,rfl,rfl,hk,hf⟩:=hrel;by_cases hlt:k<s.size
   ·have hd:=Lib.hid (Y4c s k hlt)
    by_cases h1:(s[k].toNat:Int)=0
    ·have HP:=Lib.hid (J4i hf.out hd.out h1)
     clear hf hd
     go_wp2
     go_ret
     exact⟨by rw[HI.out,HP.out];rfl,hb2.out⟩
    ·have HP:=Lib.hid (J0l hf.out hd.out h1)
     have e1:((s[k].toNat:Int)==0)=false:=by rw[beq_eq_false_iff_ne];exact h1
     clear hf hd h1
     go_wp2
     go_round
     case rel=>exact⟨k+1,by go_num,rfl,by omega,HP⟩
     case measure=>simp[intOf];omega
   ·have HP:=Lib.hid (J4j hf.out (List.drop_eq_nil_of_le (by rw[Z0p];omega)))
    clear hf
    go_wp2
    go_ret
    exact⟨by rw[HI.out,HP.out];rfl,hb2.out⟩
end
section
open Go.RowKit
theorem J0m (s:ByteArray) (_hs:s.size≤140737488351232) (l m:Int) (vb:Bool) (w:World)
  (hv:Calls Tryz.prog 105 #[.string s] w fun e w'=>e = .returned (.bool vb)∧Below w.heap.size w w')
  (hc:∀w1,Below w.heap.size w w1→Calls Tryz.prog 168 #[.string s, .string { data:=#[0] }] w1 fun e w'=>e = .returned (.bool (!P8 (sb s)))∧Below w1.heap.size w1 w'):
  Calls Tryz.prog 165 #[.string s, .int .i64 l, .int .i64 m] w fun e w'=>e = .returned (.bool (Z6m vb s l m))∧Below w.heap.size w w':=by
 have HV:=Lib.hid hv;have HC:=Lib.hid hc;have HW:=Lib.hid (P7 (s.size:Int) l m w);clear hv hc;cases hb:V6 s.size l m with
 |false=>
  rw[hb] at HW;have HP:=Lib.hid (show Z6m vb s l m=false by unfold Z6m;rw[hb];rfl);go_enter Tryz.func165,Tryz.ntmps165
  go_wp2_with (go_at_call 151;(with_reducible refine HW.out.mono ?_);rintro _ w1 ⟨rfl,rfl⟩)
  go_ret
  exact⟨by rw[HP.out];rfl,Below.refl _ _⟩
 |true=>
  rw[hb] at HW;have HI:=Lib.hid (show Z6m vb s l m=(vb&&P8 (sb s)) by unfold Z6m;rw[hb];rfl);cases vb with
  |false=>
   go_enter Tryz.func165,Tryz.ntmps165
   go_wp2_with (first
    |(go_at_call 151;(with_reducible refine HW.out.mono ?_);rintro _ w1 ⟨rfl,rfl⟩)
    |(go_at_call 105;(with_reducible refine HV.out.mono ?_);rintro _ w2 ⟨rfl,hb2⟩;have HB2:=Lib.hid hb2;clear hb2))
   go_ret
   exact⟨by rw[HI.out];rfl,HB2.out⟩
  |true=>
   go_enter Tryz.func165,Tryz.ntmps165
   go_wp2_with (first
    |(go_at_call 151;(with_reducible refine HW.out.mono ?_);rintro _ w1 ⟨rfl,rfl⟩)
    |(go_at_call 105;(with_reducible refine HV.out.mono ?_);rintro _ w2 ⟨rfl,hb2⟩;have HB2:=Lib.hid hb2;clear hb2)
    |(go_at_call 168;(with_reducible refine(HC.out w2 HB2.out).mono ?_);rintro _ w3 ⟨rfl,hb3⟩;have HB3:=Lib.hid (HB2.out.trans (hb3.mono HB2.out.size));clear hb3))
   go_ret
   exact⟨by rw[HI.out];simp,HB3.out⟩
end
section
open Go.RowKit
structure Mq where
 kind:Int
 client:ByteArray
 clean:Bool
 keep:Int
 won:Bool
 wt:ByteArray
 wp:ByteArray
 wq:Int
 wr:Bool
 user:ByteArray
 hu:Bool
 pass:ByteArray
 hp:Bool
 present:Bool
 code:Int
 codes:List Int
 dup:Bool
 qos:Int
 retain:Bool
 topic:ByteArray
 id:Int
 payload:ByteArray
 wishes:List (ByteArray×Int)
 filters:List ByteArray
abbrev nos:ByteArray:=⟨#[]⟩
def N6 (k:Int):Mq:=⟨k,nos,false,0,false,nos,nos,0,false,nos,false,nos,false,false,0,[],false,0,false,nos,0,nos,[],[]⟩
def vd (s:ByteArray):Bool:=Lib.validD (sb s)
def G3 (s:ByteArray) (l m:Int):Bool:=Z6m (vd s) s l m
def Z6n (s:ByteArray):Bool:=G3 s 1 64&&Q9 (sb s)
def emp (s:ByteArray):Bool:=s.size==0
def Z9c (m:Mq):Bool:=if m.won then G3 m.wt 1 64&&(decide ((m.wp.size:Int)≤128)&&V6 m.wq 0 2) else emp m.wt&&(emp m.wp&&(m.wq==0 && !m.wr))
def E4 (m:Mq):Bool:=
 G3 m.client 0 23&&(V6 m.keep 0 65535&&(Z9c m&&(G3 m.user 0 64&&(decide ((m.pass.size:Int)≤64)&&((m.hu||(emp m.user && !m.hp))&&(m.hp||emp m.pass))))))
def K9 (m:Mq):Bool:=
 Z6n m.topic&&(V6 m.qos 0 2&&(((decide (0<m.qos)&&V6 m.id 1 65535)||(m.qos==0&&(m.id==0 && !m.dup)))&&decide ((m.payload.size:Int)≤128)))
def Q4:List (ByteArray×Int)→Bool
 |[]=>true
 |x::xs=>(G3 x.1 1 64&&V6 x.2 0 2)&&Q4 xs
def G4:List Int→Bool
 |[]=>true
 |x::xs=>(V6 x 0 2||x==128)&&G4 xs
def Q2:List ByteArray→Bool
 |[]=>true
 |x::xs=>G3 x 1 64&&Q2 xs
def E8 (l:List (ByteArray×Int)):Bool:=Q4 l&&V6 l.length 1 8
def C3 (l:List Int):Bool:=G4 l&&V6 l.length 1 8
def M0 (l:List ByteArray):Bool:=Q2 l&&V6 l.length 1 8
def Q8 (k:Int):Bool:=k==4||(k==5||(k==6||(k==7||k==11)))
def J3 (k:Int):Bool:=k==12||(k==13||k==14)
def N3 (m:Mq):Bool:=
 if m.kind=1 then E4 m
 else if m.kind=2 then V6 m.code 0 5&&(!m.present||m.code==0)
 else if m.kind=3 then K9 m
 else if Q8 m.kind then V6 m.id 1 65535
 else if m.kind=8 then V6 m.id 1 65535&&E8 m.wishes
 else if m.kind=9 then V6 m.id 1 65535&&C3 m.codes
 else if m.kind=10 then V6 m.id 1 65535&&M0 m.filters
 else J3 m.kind
def Y3 (m:Mq):Mq:=
 if m.kind=1 then { N6 m.kind with client:=m.client,clean:=m.clean,keep:=m.keep,won:=m.won,wt:=m.wt,wp:=m.wp,wq:=m.wq,wr:=m.wr,user:=m.user,hu:=m.hu,pass:=m.pass,hp:=m.hp }
 else if m.kind=2 then { N6 m.kind with present:=m.present,code:=m.code }
 else if m.kind=3 then { N6 m.kind with topic:=m.topic,qos:=m.qos,dup:=m.dup,retain:=m.retain,id:=m.id,payload:=m.payload }
 else if Q8 m.kind then { N6 m.kind with id:=m.id }
 else if m.kind=8 then { N6 m.kind with id:=m.id,wishes:=m.wishes }
 else if m.kind=9 then { N6 m.kind with id:=m.id,codes:=m.codes }
 else if m.kind=10 then { N6 m.kind with id:=m.id,filters:=m.filters }
 else N6 m.kind
def Z4b (m:Mq):Prop:=N3 m=true∧m=Y3 m
def J2 (s:ByteArray):List UInt8:=U1 2 s.size++sb s
def cb (b:Bool) (n:Nat):Nat:=if b then n else 0
def U9 (m:Mq):Nat:=cb m.clean 2+cb m.won 4+8*m.wq.toNat+cb m.wr 32+cb m.hp 64+cb m.hu 128
def P4 (m:Mq):List UInt8:=
 U1 2 4++[77,81,84,84]++[4,UInt8.ofNat (U9 m)]++U1 2 m.keep.toNat++J2 m.client
  ++ (if m.won then J2 m.wt++J2 m.wp else [])++(if m.hu then J2 m.user else [])++(if m.hp then J2 m.pass else [])
def Z0q (m:Mq):List UInt8:=J2 m.topic++(if 0<m.qos then U1 2 m.id.toNat else [])++sb m.payload
def Y9:List (ByteArray×Int)→List UInt8
 |[]=>[]
 |x::xs=>J2 x.1++[UInt8.ofNat x.2.toNat]++Y9 xs
def G2:List Int→List UInt8
 |[]=>[]
 |x::xs=>UInt8.ofNat x.toNat::G2 xs
def J8:List ByteArray→List UInt8
 |[]=>[]
 |x::xs=>J2 x++J8 xs
def X8 (m:Mq):List UInt8:=
 if m.kind=1 then P4 m
 else if m.kind=2 then [UInt8.ofNat (cb m.present 1),UInt8.ofNat m.code.toNat]
 else if m.kind=3 then Z0q m
 else if m.kind=8 then U1 2 m.id.toNat++Y9 m.wishes
 else if m.kind=9 then U1 2 m.id.toNat++G2 m.codes
 else if m.kind=10 then U1 2 m.id.toNat++J8 m.filters
 else if J3 m.kind then []
 else U1 2 m.id.toNat
def X9 (m:Mq):Nat:=
 if m.kind=3 then cb m.dup 8+2*m.qos.toNat+cb m.retain 1
 else if m.kind=8 then 2 else if m.kind=10 then 2 else if m.kind=6 then 2 else 0
def Z3g (n:Nat):List UInt8:=if n<128 then [UInt8.ofNat n] else UInt8.ofNat (n%128+128)::Z3g (n/128)
decreasing_by omega
def Z1j (m:Mq):List UInt8:=UInt8.ofNat (16*m.kind.toNat+X9 m)::(Z3g (X8 m).length++X8 m)
end
section
open Go.RowKit
def Wd (w:World):Prop:=Lib.Utf8Tabs (Sh.lays196_ren.g 3) (Sh.lays196_ren.g 4) w
theorem Wd.below {w w':World}(h:Wd w) (hb:Below w.heap.size w w'):Wd w':=by
 obtain⟨h1,h2⟩:=h;have k:∀(a:Addr) (v:Value),w.cell? a=some v→w'.cell? a=some v:=fun a v hv=>(hb.cell (World.block_lt_of_cell? w a hv)).trans hv;exact⟨fun c hc=>k _ _ (h1 c hc),fun i hi=>⟨k _ _ (h2 i hi).1,k _ _ (h2 i hi).2⟩⟩
theorem J4l (s:ByteArray) (hs:s.size≤140737488351232) (w:World) (hT:Wd w):
  Calls Tryz.prog 105 #[.string s] w fun e w'=>e = .returned (.bool (vd s))∧Below w.heap.size w w':=Sh.utf8_ValidString s w (by omega) hT
theorem Y3u (xs:List UInt8):xs.contains 0 = !P8 xs:=by
 induction xs with
 |nil=>rfl
 |cons x xs ih=>
  by_cases h:x=0
  ·subst h;simp[P8]
  ·have h1:(x==0)=false:=by simpa using h
   have h2:((0:UInt8)==x)=false:=by simpa using fun e=>h e.symm
   simp only[List.contains_cons,h2,Bool.false_or,ih,P8,h1];rfl
theorem Q4t (s:ByteArray) (w:World):
  Calls Tryz.prog 168 #[.string s, .string { data:=#[0] }] w fun e w'=>e = .returned (.bool (!P8 (sb s)))∧w=w':=by
 refine(Sh.strings_Contains_one s 0 w).mono ?_;rintro e w' ⟨rfl,rfl⟩;refine⟨?_,rfl⟩;rw[←Y3u,Lib.contains_iff_indexByte]
theorem Y5v {P:Program}{f:FuncId}{args:Array Value}{w:World}{a n:Nat}{v:Value}
  (h:Calls P f args (w.drewN (a+n)) fun e w'=>e = .returned v∧w'=w.drewN (a+n)):
  Calls P f args (w.drewN (a+n)) fun e w''=>e = .returned v∧∃m,w''=w.drewN (a+m):=
 h.mono fun _ _ ⟨he,hm⟩=>⟨he,n,hm⟩
theorem Y8h {P:Program}{f:FuncId}{args:Array Value}{w:World}{v:Value}(h:Calls P f args w fun e w'=>e = .returned v∧w'=w):Calls P f args w fun e w'=>e = .returned v∧w=w':=
 h.mono fun _ _ ⟨a,b⟩=>⟨a,b.symm⟩
abbrev pm:ByteArray:={ data:=#[43,35] }
theorem X2p (s:ByteArray) (pos:Nat) (h:pos<s.size) (ha:128≤(s[pos]'h).toNat):∀j,j<(Utf8.decode s pos).2→pos+j<s.size∧128≤(s.get! (pos+j)).toNat:=by
 have h0:128≤(s.get! (pos+0)).toNat:=by rw[get_at s pos h];exact ha
 have hn:¬(s.get! (pos+0)).toNat<128:=by omega
 have hp:pos+0<s.size:=h;intro j hj;simp only[Utf8.decode,hn,if_false] at hj;have k2:∀k,(decide (pos+k<s.size)&&((s.get! (pos+k)).toNat/64==2))=true→pos+k<s.size∧128≤(s.get! (pos+k)).toNat:=by
  intro k hk;simp only[Bool.and_eq_true,decide_eq_true_eq,beq_iff_eq] at hk;exact⟨hk.1,by omega⟩
 have one:∀{j},j<1→pos+j<s.size∧128≤(s.get! (pos+j)).toNat:=fun {j} hj=>by
  obtain rfl:j=0:=by omega
  exact⟨hp,h0⟩
 split at hj
 ·rename_i hc
  simp only[Bool.and_eq_true] at hc
  split at hj
  ·have hj':j=0∨j=1:=by simp only at hj;omega
   rcases hj' with rfl |rfl
   ·exact⟨hp,h0⟩
   ·exact k2 1 (by simpa using hc.2)
  ·exact one hj
 ·split at hj
  ·rename_i hc
   simp only[Bool.and_eq_true] at hc
   split at hj
   ·have hj':j=0∨j=1∨j=2:=by simp only at hj;omega
    rcases hj' with rfl |rfl |rfl
    ·exact⟨hp,h0⟩
    ·exact k2 1 (by simpa using hc.1.2)
    ·exact k2 2 (by simpa using hc.2)
   ·exact one hj
  ·split at hj
   ·rename_i hc
    simp only[Bool.and_eq_true] at hc
    split at hj
    ·have hj':j=0∨j=1∨j=2∨j=3:=by simp only at hj;omega
     rcases hj' with rfl |rfl |rfl |rfl
     ·exact⟨hp,h0⟩
     ·exact k2 1 (by simpa using hc.1.1.2)
     ·exact k2 2 (by simpa using hc.1.2)
     ·exact k2 3 (by simpa using hc.2)
    ·exact one hj
   ·exact one hj
theorem Y5w (s:ByteArray) (pos:Nat):∀n,(∀j,j<n→pos+j<s.size∧128≤(s.get! (pos+j)).toNat)→Q9 ((sb s).drop (pos+n))=Q9 ((sb s).drop pos)
 |0,_=>rfl
 |n+1,h=>by
  rw[←Y5w s pos n (fun j hj=>h j (by omega))];obtain⟨h1,h2⟩:=h n (by omega);have e:s.get! (pos+n)=s[pos+n]'h1:=get_at s (pos+n) h1;rw[e] at h2;rw[Y4c s (pos+n) h1,Q9];have a:(s[pos+n]==43)=false:=by rw[beq_eq_false_iff_ne];intro e;rw[e] at h2;exact absurd h2 (by decide)
  have b:(s[pos+n]==35)=false:=by rw[beq_eq_false_iff_ne];intro e;rw[e] at h2;exact absurd h2 (by decide)
  rw[a,b];rfl
theorem J4m (r:Int) (h1:128≤r) (h2:r≤2147483647) (w:World):
  Calls Tryz.prog 173 #[.string pm, .int .i32 r] w fun e w'=>e = .returned (.int .i64 (-1))∧Below w.heap.size w w':=by
 have h0:(0:Int)≤r:=by omega
 have h128:decide (r<128)=false:=decide_eq_false (by omega);by_cases hE:r=65533
 ·subst hE
  go_enter Tryz.func173,Tryz.ntmps173
  go_wp2
  go_loopg [5,6] 2 (fun gk _ _ wx=>∃i:Nat,i+gk=2∧wx=w.iter pm i)
  case atStart=>exact⟨0,rfl,rfl⟩
  case round=>
   obtain⟨i,hig,rfl⟩:=hrel;cases gk with
   |zero=>
    obtain rfl:i=2:=by omega
    have hnx:=run_next_end (P:=Tryz.prog) w pm 2
    go_wp2
    go_ret
    exact⟨rfl,G0 w _⟩
   |succ g=>
    have hi:i=0∨i=1:=by omega
    rcases hi with rfl |rfl
    ·have hnx:=fun ty=>run_next_ascii (P:=Tryz.prog) w pm 0 ty (by decide) (by decide)
     go_wp2
     go_roundg g
     case measure=>omega
     case rel=>exact⟨1,by omega,rfl⟩
    ·have hnx:=fun ty=>run_next_ascii (P:=Tryz.prog) w pm 1 ty (by decide) (by decide)
     go_wp2
     go_roundg g
     case measure=>omega
     case rel=>exact⟨2,by omega,rfl⟩
 ·have hE':(r==65533)=false:=by rw[beq_eq_false_iff_ne];exact hE
  have KV:=Lib.hid (Sh.utf8_ValidRune r w);cases hv:Lib.validRune r with
  |false=>
   rw[hv] at KV;go_enter Tryz.func173,Tryz.ntmps173
   go_wp2_with (go_at_call 182;(with_reducible refine KV.out.mono ?_);rintro _ w' ⟨rfl,rfl⟩)
   go_ret
   exact⟨rfl,Below.refl _ _⟩
  |true=>
   rw[hv] at KV;have hu:Utf8.valid r=true:=by
    have:=hv;simp only[Lib.validRune,decide_eq_true_eq] at this;simp[Utf8.valid];omega
   obtain⟨s2,s4,slast⟩:=encode_facts r hu h1;obtain⟨nd,hnd⟩:∃nd,Utf8.encode r=nd:=⟨_,rfl⟩;rw[hnd] at s2 s4 slast;have hs:nd.size=2∨2<nd.size:=by omega
   clear hu;rcases hs with hs |hs
   ·have hl:128≤(nd[1]'(by omega)).toNat:=by
     have:=slast (by omega)
     simpa [hs] using this
    have hi1:(1:Nat)<nd.size:=by omega
    have hi1I:(1:Int)<(nd.size:Int):=by omega
    obtain⟨y,hy⟩:∃y,nd[1]'(by omega)=y:=⟨_,rfl⟩;rw[hy] at hl;have hne:(((pm[1]'(by decide)).toNat:Int) != (y.toNat:Int))=true:=by
     have:(pm[1]'(by decide)).toNat=35:=rfl;rw[bne_iff_ne,this];omega
    go_enter Tryz.func173,Tryz.ntmps173
    go_wp2_with (go_at_call 182;(with_reducible refine KV.out.mono ?_);rintro _ w' ⟨rfl,rfl⟩)
    refine Z1o 1 rfl ?_
    go_wp2
    refine wp_loop_rounds 1 ?_;rw[rounds_succ]
    go_wp2
    refine Z1o 0 rfl ?_
    go_wp2
    go_quiet (fail)
    go_wp2
    have hw2:IntKind.i64.wrap 2=2:=by decide
    have hix:∀c:UInt8,Lib.indexByte (pm.extract 2 2).data.toList c = -1:=fun c=>rfl
    go_quiet ((go_at_call 181;exact Y5v (Sh.strings_IndexByte _ _ _)))
    go_wp2
    simp only[Exit.jump]
    go_wp2
    simp only[Exit.jump]
    go_ret
    exact⟨rfl,Z6g (Below.refl _ _) _⟩
   ·have e1:(2:Int)≤(nd.size:Int)-1:=by omega
    go_enter Tryz.func173,Tryz.ntmps173
    go_wp2_with (go_at_call 182;(with_reducible refine KV.out.mono ?_);rintro _ w' ⟨rfl,rfl⟩)
    refine Z1o 1 rfl ?_
    go_wp2
    refine wp_loop_rounds 1 ?_;rw[rounds_succ]
    go_wp2
    simp only[Exit.jump]
    go_ret
    exact⟨rfl,Below.refl _ _⟩
theorem J0n (xs:List UInt8):decide (0≤Lib.indexAny xs (sb pm)) = !Q9 xs:=by
 induction xs with
 |nil=>rfl
 |cons x xs ih=>
  have h1:=Lib.indexAny_ge (sb pm) xs;by_cases h:x=43∨x=35
  ·have hc:(sb pm).contains x=true:=by rcases h with rfl |rfl<;>rfl
   have hp:Q9 (x::xs)=false:=by rw[Q9];rcases h with rfl |rfl<;>rfl
   rw[hp,Lib.indexAny,if_pos hc];rfl
  ·have a:(x==43)=false:=by rw[beq_eq_false_iff_ne];exact fun e=>h (Or.inl e)
   have b:(x==35)=false:=by rw[beq_eq_false_iff_ne];exact fun e=>h (Or.inr e)
   have hc:(sb pm).contains x=false:=by
    show [(43:UInt8),35].contains x=false;rw[List.contains_cons,List.contains_cons,List.contains_nil,a,b];rfl
   have hp:Q9 (x::xs)=Q9 xs:=by rw[Q9,a,b];rfl
   rw[hp,←ih,Lib.indexAny,hc,if_neg (by simp)];by_cases hm:Lib.indexAny xs (sb pm) = -1
   ·rw[hm];rfl
   ·have hm2:(Lib.indexAny xs (sb pm) == -1)=false:=by rw[beq_eq_false_iff_ne];exact hm
    rw[hm2];have h0:0≤Lib.indexAny xs (sb pm):=by omega
    rw[if_neg (by simp),decide_eq_true h0,decide_eq_true (by omega)]
def X8n (s:ByteArray) (w:World) (e:Ending) (w':World):Prop:=∃v:Int,e = .returned (.int .i64 v)∧decide (0≤v) = !Q9 (sb s)∧Below w.heap.size w w'
theorem J8k (s:ByteArray) (h8:8<s.size) (hs:s.size<4294967281) (w:World):Calls Tryz.prog 171 #[.string s, .string pm] w (X8n s w):=by
 refine(Sh.strings_IndexAny_long (fun _=>by kernel_rfl) s pm w (by decide) h8 hs (by decide) ?_).mono ?_
 ·intro j b hb
  match j,hb with
  |0,hb=>simp at hb;subst hb;decide
  |1,hb=>simp at hb;subst hb;decide
 ·rintro e w' ⟨rfl,rfl⟩
  exact⟨_,rfl,J0n (sb s),(G0 w _).trans ((G0 _ _).mono (G0 w _).size)⟩
theorem J4n (s:ByteArray) (h8:s.size≤8) (w:World):Calls Tryz.prog 171 #[.string s, .string pm] w (X8n s w):=by
 have h8z:decide ((8:Int)<(s.size:Int))=false:=decide_eq_false (by omega);go_enter Tryz.func171,Tryz.ntmps171
 go_wp2_with (go_at_call 174;(with_reducible refine(Y8h (Sh.strings_shouldUseASCIISet _ _)).mono ?_);rintro e w' ⟨rfl,rfl⟩)
 go_loopg [9,10] (s.size+1) (fun gk _ _ wx=>∃(i:Nat),s.size<i+gk∧i≤s.size∧Hid (wx.heap[w.heap.size]? = some (.stringIter s i))∧Below w.heap.size w wx∧Hid (Q9 ((sb s).drop i)=Q9 (sb s)))
 case atStart=>exact⟨0,by omega,by omega,World.iter_heap w s 0,G0 w _,rfl⟩
 case round=>
  obtain⟨i,hig,his,hk,hbel,hp⟩:=hrel;by_cases hi:i<s.size
  ·have hd:=Y4c s i hi
   by_cases ha:(s[i]'hi).toNat<128
   ·obtain⟨x,hx⟩:∃x:UInt8,s[i]'hi=x:=⟨_,rfl⟩
    rw[hx] at ha hd;have hnx:=fun ty=>Lib.run_next_ascii_at (P:=Tryz.prog) wr w.heap.size s i ty hk.out hi (by rw[hx];exact ha);rw[hx] at hnx;have hback:((x.toNat:Int)).toNat.toUInt8=x:=by simp
    have KR:=Lib.hid (fun w1=>Y8h (Sh.strings_IndexRune_ascii pm (x.toNat:Int) w1 (by omega) (by omega)));rw[hback] at KR;obtain⟨v,hv⟩:∃v,Lib.indexByte pm.data.toList x=v:=⟨_,rfl⟩;rw[hv] at KR;have hb2:=Lib.hid (Lib.below_iterAt hbel (Nat.le_refl _) s (i+1));have hk2:Hid ((wr.iterAt w.heap.size s (i+1)).heap[w.heap.size]? = some (.stringIter s (i+1))):=Lib.iterAt_heap wr w.heap.size s i (i+1) hk.out;have hg1:1≤gk:=by omega
    by_cases hb:x=43∨x=35
    ·have hge:0≤v:=by
      rw[←hv];rcases hb with rfl |rfl<;>decide
     have hf:Hid (Q9 (sb s)=false):=by
      unfold Hid;rw[←hp.out,hd,Q9];rcases hb with rfl |rfl<;>rfl
     clear hb hv hback hd hx hp ha
     go_wp2_with (go_at_call 173;(with_reducible refine(KR.out _).mono ?_);rintro _ w2 ⟨rfl,rfl⟩)
     go_ret
     exact⟨(i:Int),rfl,by rw[hf.out];exact decide_eq_true (by omega),hb2.out⟩
    ·have hlt:¬0≤v:=by
      rw[←hv];have a:(43:UInt8)≠x:=fun e=>hb (Or.inl e.symm);have b:(35:UInt8)≠x:=fun e=>hb (Or.inr e.symm);have hc:pm.data.toList.contains x=false:=by
       simp[Ne.symm a,Ne.symm b]
      rw[Lib.contains_iff_indexByte] at hc;exact of_decide_eq_false hc
     have hf:Hid (Q9 ((sb s).drop (i+1))=Q9 (sb s)):=by
      unfold Hid;rw[←hp.out,hd,Q9];have a:(x==43)=false:=by rw[beq_eq_false_iff_ne];exact fun e=>hb (Or.inl e)
      have b:(x==35)=false:=by rw[beq_eq_false_iff_ne];exact fun e=>hb (Or.inr e)
      rw[a,b];rfl
     clear hb hv hback hd hx hp ha
     go_wp2_with (go_at_call 173;(with_reducible refine(KR.out _).mono ?_);rintro _ w2 ⟨rfl,rfl⟩)
     go_roundg (gk-1)
     case measure=>omega
     case rel=>exact⟨i+1,by omega,by omega,hk2,hb2.out,hf⟩
   ·have hsp:=X2p s i hi (by omega)
    obtain⟨d1,d2⟩:=decode_high s i hi (by omega);have d3:=decode_le s i;have hnx:=fun ty=>Lib.run_next_any_at (P:=Tryz.prog) wr w.heap.size s i ty hk.out hi;have hf:=Y5w s i _ hsp;obtain⟨⟨r,n⟩,hrn⟩:∃q,Utf8.decode s i=q:=⟨_,rfl⟩;rw[hrn] at hsp d1 d2 d3 hnx hf;dsimp only at hsp d1 d2 d3 hnx hf;have hle:i+n≤s.size:=by have:=(hsp (n-1) (by omega)).1;omega
    have KR:=Lib.hid (fun w1=>J4m (r:Int) (by omega) (by omega) w1);have hf2:Hid (Q9 ((sb s).drop (i+n))=Q9 (sb s)):=hf.trans hp.out;have hb2:=Lib.hid (Lib.below_iterAt hbel (Nat.le_refl _) s (i+n));have hk2:Hid ((wr.iterAt w.heap.size s (i+n)).heap[w.heap.size]? = some (.stringIter s (i+n))):=Lib.iterAt_heap wr w.heap.size s i (i+n) hk.out;have hlt:w.heap.size<(wr.iterAt w.heap.size s (i+n)).heap.size:=(Array.getElem?_eq_some_iff.1 hk2.out).1;clear hf hd hp hsp hrn ha
    go_wp2_with (go_at_call 173;(with_reducible refine(KR.out _).mono ?_);rintro _ w2 ⟨rfl,hb3⟩;have HB3:=Lib.hid hb3;clear hb3)
    go_roundg (gk-1)
    case measure=>omega
    case rel=>exact⟨i+n,by omega,by omega,(HB3.out.block _ hlt).trans hk2.out,hb2.out.trans (HB3.out.mono (Nat.le_of_lt hlt)),hf2⟩
  ·have hnx:=Lib.run_next_end_at (P:=Tryz.prog) wr w.heap.size s i
   have hnx2:=fun ty=>hnx ty hk.out hi;obtain rfl:i=s.size:=by omega
   have hf:Hid (Q9 (sb s)=true):=by
    unfold Hid;rw[←hp.out,List.drop_eq_nil_of_le (by rw[Z0p];exact Nat.le_refl _)];rfl
   clear hp hnx
   go_wp2
   go_ret
   exact⟨-1,rfl,by rw[hf.out];rfl,hbel⟩
theorem Q7e (s:ByteArray) (hs:s.size<4294967281) (w:World):
  Calls Tryz.prog 169 #[.string s, .string pm] w fun e w'=>e = .returned (.bool (!Q9 (sb s)))∧Below w.heap.size w w':=by
 have K:Calls Tryz.prog 171 #[.string s, .string pm] w (X8n s w):=by
  rcases Nat.lt_or_ge 8 s.size with h |h
  ·exact J8k s h hs w
  ·exact J4n s h w
 unfold X8n at K;generalize (!Q9 (sb s))=v at *;have HK:=Lib.hid K;clear K;go_enter Tryz.func169,Tryz.ntmps169
 go_wp2_with fail
 (with_reducible refine HK.out.mono ?_)
 rintro _ w1 ⟨n,rfl,hn,hb⟩;have HN:=Lib.hid hn;have HB:=Lib.hid hb;clear HK hn hb
 go_wp2
 go_ret
 exact⟨by rw[←HN.out];rfl,HB.out⟩
theorem Z7h (s:ByteArray) (hs:s.size≤140737488351232) (l m:Int) (w:World) (hT:Wd w):
  Calls Tryz.prog 71 #[.string s, .int .i64 l, .int .i64 m] w fun e w'=>e = .returned (.bool (G3 s l m))∧Below w.heap.size w w':=
 J4k s hs l m (vd s) w (J4l s hs w hT)
theorem Z5c (s:ByteArray) (hs:s.size≤140737488351232) (l m:Int) (w:World) (hT:Wd w):
  Calls Tryz.prog 165 #[.string s, .int .i64 l, .int .i64 m] w fun e w'=>e = .returned (.bool (G3 s l m))∧Below w.heap.size w w':=
 J0m s hs l m (vd s) w (J4l s hs w hT) (fun w1 _=>(Q4t s w1).mono fun _ _ ⟨h1,h2⟩=>⟨h1,h2▸Below.refl _ _⟩)
theorem N7 {s:ByteArray}{l m:Int}(h:G3 s l m=true):l≤s.size∧(s.size:Int)≤m:=by
 unfold G3 Z6m at h;rw[Bool.and_eq_true] at h;exact Q5.1 h.1
theorem X5w (s:ByteArray) (hs:s.size≤140737488351232) (w:World) (hT:Wd w):
  Calls Tryz.prog 167 #[.string s] w fun e w'=>e = .returned (.bool (Z6n s))∧Below w.heap.size w w':=by
 have HT:=Lib.hid (Z5c s hs 1 64 w hT);unfold Z6n;cases hb:G3 s 1 64 with
 |false=>
  rw[hb] at HT;go_enter Tryz.func167,Tryz.ntmps167
  go_wp2_with (go_at_call 165;(with_reducible refine HT.out.mono ?_);rintro _ w2 ⟨rfl,hb2⟩;have HB2:=Lib.hid hb2;clear hb2)
  go_ret
  exact⟨rfl,HB2.out⟩
 |true=>
  have HA:=Lib.hid (fun w1=>Q7e s (by have:=(N7 hb).2;omega) w1);rw[hb] at HT;go_enter Tryz.func167,Tryz.ntmps167
  go_wp2_with (first
   |(go_at_call 165;(with_reducible refine HT.out.mono ?_);rintro _ w2 ⟨rfl,hb2⟩;have HB2:=Lib.hid hb2;clear hb2)
   |(go_at_call 169;(with_reducible refine(HA.out w2).mono ?_);rintro _ w3 ⟨rfl,hb3⟩;have HB3:=Lib.hid (HB2.out.trans (hb3.mono HB2.out.size));clear hb3))
  go_ret
  exact⟨by simp,HB3.out⟩
end
section
open Go.RowKit
abbrev Rd:=List UInt8×Bool
def Z0i (s:Rd) (n:Nat):List UInt8×Rd:=
 if s.2=false∧n≤s.1.length then (s.1.take n,(s.1.drop n,false)) else (List.replicate n 0,(s.1,true))
def L9 (s:Rd) (n:Nat):List UInt8×Rd:=
 if n≤s.1.length then (s.1.take n,(s.1.drop n,s.2)) else (List.replicate n 0,([],true))
abbrev mkS (xs:List UInt8):ByteArray:=⟨xs.toArray⟩
def T3 (s:Rd):UInt8×Rd:=((Z0i s 1).1.headD 0,(Z0i s 1).2)
def M4 (s:Rd):Nat×Rd:=((T3 s).1.toNat*256+(T3 (T3 s).2).1.toNat,(T3 (T3 s).2).2)
def W3 (s:Rd):ByteArray×Rd:=(mkS (Z0i (M4 s).2 (M4 s).1).1,(Z0i (M4 s).2 (M4 s).1).2)
def Y2n (s:Rd):UInt8×Rd:=((L9 s 1).1.headD 0,(L9 s 1).2)
def Z2g (s:Rd):Nat×Rd:=(ofB (L9 s 2).1,(L9 s 2).2)
def S7 (s:Rd):ByteArray×Rd:=(mkS (L9 (Z2g s).2 (Z2g s).1).1,(L9 (Z2g s).2 (Z2g s).1).2)
def U4 (f:UInt8) (n:UInt8):Bool:=f&&&n != 0
structure Y0n where
 f:UInt8
 k:Nat×Rd
 c:ByteArray×Rd
 t:ByteArray×Rd
 y:ByteArray×Rd
 u:ByteArray×Rd
 q:ByteArray×Rd
 s:Rd
def Z9d (one:Rd→UInt8×Rd) (two:Rd→Nat×Rd) (text:Rd→ByteArray×Rd) (s:Rd):Y0n:=
 let f:=one s
 let k:=two f.2
 let c:=text k.2
 let t:=text c.2
 let y:=text t.2
 let s5:=if U4 f.1 4 then y.2 else c.2
 let u:=text s5
 let s6:=if U4 f.1 128 then u.2 else s5
 let q:=text s6
 let s7:=if U4 f.1 64 then q.2 else s6
 ⟨f.1,k,c,t,y,u,q,s7⟩
def Y0n.mq (r:Y0n):Mq:=
 { N6 1 with
  keep:=r.k.1,client:=r.c.1,clean:=U4 r.f 2,hp:=U4 r.f 64,hu:=U4 r.f 128,won:=U4 r.f 4,
  wt:=(if U4 r.f 4 then r.t.1 else nos),wp:=(if U4 r.f 4 then r.y.1 else nos),wq:=(if U4 r.f 4 then ((r.f >>> 3&&&3).toNat:Int) else 0),wr:=(U4 r.f 4&&U4 r.f 32),
  user:=(if U4 r.f 128 then r.u.1 else nos),pass:=(if U4 r.f 64 then r.q.1 else nos) }
def Y1p (s:Rd):Y0n:=Z9d T3 M4 W3 (Z0i s 7).2
def Y3o (s:Rd):Y0n:=Z9d Y2n Z2g S7 (L9 s 7).2
def X2q (f:UInt8) (t:ByteArray) (i:Nat) (p:ByteArray):Mq:=
 { N6 3 with dup:=U4 f 8,qos:=((f >>> 1&&&3).toNat:Int),retain:=U4 f 1,topic:=t,id:=(if f >>> 1&&&3 != 0 then (i:Int) else 0),payload:=p }
def J8l (f:UInt8) (s:Rd):Mq×Rd:=
 let t:=W3 s
 let i:=M4 t.2
 let s2:=if f >>> 1&&&3 != 0 then i.2 else t.2
 let p:=Z0i s2 s2.1.length
 (X2q f t.1 i.1 (mkS p.1),p.2)
def Q1x (f:UInt8) (s:Rd):Mq×Rd:=
 let t:=S7 s
 let i:=Z2g t.2
 let s2:=if f >>> 1&&&3 != 0 then i.2 else t.2
 (X2q f t.1 i.1 (mkS s2.1),s2)
def D8 (k:Int):Nat→Mq→Rd→Mq×Rd
 |0,m,s=>(m,s)
 |f+1,m,s=>
  if s.2=false∧0<s.1.length then
   if k=8 then D8 k f { m with wishes:=m.wishes++[((W3 s).1,((T3 (W3 s).2).1.toNat:Int))] } (T3 (W3 s).2).2
   else if k=9 then D8 k f { m with codes:=m.codes++[((T3 s).1.toNat:Int)] } (T3 s).2
   else D8 k f { m with filters:=m.filters++[(W3 s).1] } (W3 s).2
  else (m,s)
def C0 (k:Int):Nat→Mq→Rd→Mq×Rd
 |0,m,s=>(m,s)
 |f+1,m,s=>
  if 0<s.1.length then
   if k=8 then C0 k f { m with wishes:=m.wishes++[((S7 s).1,((Y2n (S7 s).2).1.toNat:Int))] } (Y2n (S7 s).2).2
   else if k=9 then C0 k f { m with codes:=m.codes++[((Y2n s).1.toNat:Int)] } (Y2n s).2
   else if k=10 then C0 k f { m with filters:=m.filters++[(S7 s).1] } (S7 s).2
   else C0 k f m s
  else (m,s)
def Z0r (k:Int):Bool:=k==8||(k==9||k==10)
def Z4n (k:Int) (f:UInt8) (s:Rd):Mq×Rd:=
 if k=1 then ((Y1p s).mq,(Y1p s).s)
 else if k=2 then ({ N6 k with present:=(T3 s).1==1,code:=((T3 (T3 s).2).1.toNat:Int) },(T3 (T3 s).2).2)
 else if k=3 then J8l f s
 else if Z0r k then D8 k ((M4 s).2.1.length+1) { N6 k with id:=((M4 s).1:Int) } (M4 s).2
 else if Q8 k then ({ N6 k with id:=((M4 s).1:Int) },(M4 s).2)
 else (N6 k,s)
def Z2u (k:Int) (f:UInt8) (s:Rd):Mq×Rd:=
 if k=1 then ((Y3o s).mq,(Y3o s).s)
 else if k=2 then ({ N6 k with present:=(L9 s 2).1.getD 0 0==1,code:=(((L9 s 2).1.getD 1 0).toNat:Int) },(L9 s 2).2)
 else if k=3 then Q1x f s
 else if J3 k then (N6 k,s)
 else C0 k 8 { N6 k with id:=((Z2g s).1:Int) } (Z2g s).2
theorem Z7i (a b:List UInt8) (n:Nat) (h:a.length=n):Z0i (a++b,false) n=(a,(b,false)):=by
 subst h;unfold Z0i;rw[if_pos ⟨rfl,by simp⟩];simp
theorem Z7j (a b:List UInt8) (n:Nat) (h:a.length=n):L9 (a++b,false) n=(a,(b,false)):=by
 subst h;unfold L9;rw[if_pos (by simp)];simp
theorem Z7k (x:UInt8) (b:List UInt8):T3 (x::b,false)=(x,(b,false)):=by
 unfold T3;rw[show x::b=[x]++b from rfl,Z7i [x] b 1 rfl];rfl
theorem Y2o (x:UInt8) (b:List UInt8):Y2n (x::b,false)=(x,(b,false)):=by
 unfold Y2n;rw[show x::b=[x]++b from rfl,Z7j [x] b 1 rfl];rfl
theorem Q1y (n:Nat):U1 2 n=[UInt8.ofNat (n/256),UInt8.ofNat n]:=by simp[U1]
theorem Z5s (n:Nat) (h:n<65536) (b:List UInt8):M4 (U1 2 n++b,false)=(n,(b,false)):=by
 unfold M4;rw[Q1y];simp only[List.cons_append,List.nil_append,Z7k,UInt8.toNat_ofNat']
 congr 1
 omega
theorem Z5t (n:Nat) (h:n<65536) (b:List UInt8):Z2g (U1 2 n++b,false)=(n,(b,false)):=by
 unfold Z2g;rw[Z7j _ _ 2 (Y0 2 n),Q1y];simp only[ofB,List.foldl,UInt8.toNat_ofNat']
 congr 1
 omega
theorem X0c (s:ByteArray):mkS (sb s)=s:=by
 cases s;simp[mkS,sb]
theorem Z9u (s:ByteArray) (h:s.size<65536) (b:List UInt8):W3 (J2 s++b,false)=(s,(b,false)):=by
 unfold W3 J2;rw[List.append_assoc,Z5s _ h];simp only[];rw[Z7i _ _ s.size (Z0p s)]
theorem Z9v (s:ByteArray) (h:s.size<65536) (b:List UInt8):S7 (J2 s++b,false)=(s,(b,false)):=by
 unfold S7 J2;rw[List.append_assoc,Z5t _ h];simp only[];rw[Z7j _ _ s.size (Z0p s)]
end
section
open Go.RowKit
def K7 (w:World) (B g:Nat) (s:Rd):Prop:=
 ∃A c,s.1.length≤c∧w.cell? ⟨g,0,none⟩=some (.slice A s.1.length c)∧w.cell? ⟨g,1,none⟩=some (.bool s.2) ∧
  w.frozen? ⟨g,0,none⟩=false∧w.frozen? ⟨g,1,none⟩=false∧RB w B A s.1∧B≤g∧g<w.heap.size
theorem K7.of {w:World}{B g:Nat}{A:Option Addr}{xs:List UInt8}{bad:Bool}{n c:Nat}(hl:xs.length=n) (hc:n≤c) (c0:w.cell? ⟨g,0,none⟩=some (.slice A n c)) (c1:w.cell? ⟨g,1,none⟩=some (.bool bad))
  (f0:w.frozen? ⟨g,0,none⟩=false) (f1:w.frozen? ⟨g,1,none⟩=false) (hr:RB w B A xs) (hB:B≤g) (hg:g<w.heap.size):K7 w B g (xs,bad):=by
 subst hl;exact⟨A,c,hc,c0,c1,f0,f1,hr,hB,hg⟩
theorem K7.kept {w w':World}{B g:Nat}{s:Rd}{row:Option Nat}(h:K7 w B g s) (hg:w.grownBy w' row) (hB:∀k,row=some k→B≤k) (hne:some g≠row):K7 w' B g s:=by
 obtain⟨A,c,hc,c0,c1,f0,f1,hr,hBg,hlt⟩:=h;have hk:∀p:Addr,p.block<w.heap.size→some p.block≠row→w'.cell? p=w.cell? p:=fun p hp hn=>World.cell?_of_block (hg.block _ hp hn);have hf:∀p:Addr,p.block<w.heap.size→some p.block≠row→w'.frozen? p=w.frozen? p:=fun p hp hn=>World.frozen?_of_block (hg.block _ hp hn);refine⟨A,c,hc,(hk ⟨g,0,none⟩ hlt hne).trans c0,(hk ⟨g,1,none⟩ hlt hne).trans c1,(hf ⟨g,0,none⟩ hlt hne).trans f0,(hf ⟨g,1,none⟩ hlt hne).trans f1, ?_,hBg,Nat.lt_of_lt_of_le hlt hg.size⟩;refine hr.keep fun p hp=>hk p (by omega) (fun e=>?_);have:=hB _ e.symm;omega
theorem J4p (n:Nat):(madeCells (Value.cells (.int .u8 0)) (n*1)).toList=(List.replicate n (0:UInt8)).map bv:=by
 rw[Nat.mul_one];apply List.ext_getElem?;intro j;rcases Nat.lt_or_ge j n with h |h
 ·simp[madeCells,Value.cells,h,Nat.mod_one]
 ·simp[madeCells,Value.cells,h]
theorem Z3h {P:Program}{w:World}{ops:Array Oper}{rest:List Oper}{o:Oper}{a:Act}{Q:Exit→Act→World→Prop}
  (hg:o.guard=none) (l c:Operand) (t e:TypeId) (hop:o.op=Op.makeSlice t l c) (ht:P.underlying t=some (.slice e)) (hi:(P.info? e).map (fun i=>(i.zero,i.size,i.bytes))=some (some (.int .u8 0),1,1))
  (n:Nat) (hl:a.eval l = .int .i64 (n:Int)) (hc:a.eval c = .int .i64 (n:Int)) (hn:n≤1000000)
  (hK:∀w',RB w' w'.heap.size (some ⟨w.heap.size,0,none⟩) (List.replicate n 0)→w.grownBy w' none→wpList P ops Q rest (a.put o.dst (.slice (some ⟨w.heap.size,0,none⟩) n n)) w'):
  wpList P ops Q (o::rest) a w:=by
 obtain⟨i0,hi0,hz0,hz1,hz2⟩:=info_parts hi;refine wpList_make_full w hg l c t hop w.heap.size e i0 (.int .u8 0) 1 ht hi0 hz0 hz1 .i64 .i64 (n:Int) (n:Int) n hl hc rfl rfl (by rw[hz2];omega) (by unfold maxLen;omega) (Nat.le_refl _) ?_;intro w' ho hgr;rw[J4p] at ho;exact hK w' (RB.of_ownN ho) hgr
theorem J0o (s:Rd) (n:Nat) (h:¬(s.2=false∧n≤s.1.length)):Z0i s n=(List.replicate n 0,(s.1,true)):=by unfold Z0i;rw[if_neg h]
theorem J4q (s:Rd) (n:Nat) (h:s.2=false∧n≤s.1.length):Z0i s n=(s.1.take n,(s.1.drop n,false)):=by unfold Z0i;rw[if_pos h]
def X2r (w:World) (B g n:Nat) (r:List UInt8×Rd) (e:Ending) (w':World):Prop:=
 ∃A' c',e = .returned (.slice A' n c')∧n≤c'∧r.1.length=n∧RB w' w'.heap.size A' r.1∧K7 w' B g r.2∧w.grownBy w' (some g)
theorem J4r {w w1 w':World}{B g n c H:Nat}(_hH:w1.heap.size=H) {A:Option Addr}{xs:List UInt8}(hc:xs.length≤c) (c0:w1.cell? ⟨g,0,none⟩=some (.slice A xs.length c)) (c1:w1.cell? ⟨g,1,none⟩=some (.bool true))
  (f0:w1.frozen? ⟨g,0,none⟩=false) (f1:w1.frozen? ⟨g,1,none⟩=false) (hr:RB w1 B A xs) (hB:B≤g) (hg:g<w1.heap.size) (h1:w.grownBy w1 (some g))
  (hr2:RB w' w'.heap.size (some ⟨H,0,none⟩) (List.replicate n 0)) (h2:w1.grownBy w' none):
  X2r w B g n (List.replicate n 0,(xs,true)) (.returned (.slice (some ⟨H,0,none⟩) n n)) w':=by
 refine⟨_,_,rfl,Nat.le_refl _,by simp,hr2, ?_,h1.trans (Y7t h2 _)⟩;have:K7 w1 B g (xs,true):=K7.of rfl hc c0 c1 f0 f1 hr hB hg;exact this.kept h2 (by simp) (by simp)
theorem J8m {w:World}{B g n c:Nat}{A:Option Addr}{xs:List UInt8}(hc:xs.length≤c) (hle:n≤xs.length) (c0:w.cell? ⟨g,0,none⟩=some (.slice A xs.length c)) (c1:w.cell? ⟨g,1,none⟩=some (.bool false))
  (f0:w.frozen? ⟨g,0,none⟩=false) (f1:w.frozen? ⟨g,1,none⟩=false) (hr:RB w B A xs) (hB:B≤g) (hg:g<w.heap.size):
  X2r w B g n (xs.take n,(xs.drop n,false)) (.returned (.slice A n c)) ((w.setCell ⟨g,0,none⟩ (.slice (if c=n then A else A.map (·.add n)) (xs.length-n) (c-n))).drew):=by
 have hO:=(Z6s.refl g w).set 0 (.slice (if c=n then A else A.map (·.add n)) (xs.length-n) (c-n));refine⟨_,_,rfl,by omega,by simp;omega, ?_, ?_, ?_⟩
 ·exact((hr.take n).only hO hB).more (by show B≤(w.setCell _ _).heap.size;rw[V1];omega)
 ·refine K7.of (w:=(w.setCell ⟨g,0,none⟩ _).drew) (A:=(if c=n then A else A.map (·.add n))) (n:=xs.length-n) (c:=c-n) (by simp) (by omega) ?_ ?_ ?_ ?_ ?_ hB ?_
  ·exact World.cell?_setCell_same _ _ _ c0
  ·show (w.setCell _ _).cell? _=_
   rw[World.cell?_setCell_other _ _ _ _ (by simp)];exact c1
  ·show (w.setCell _ _).frozen? _=_
   simpa using f0
  ·show (w.setCell _ _).frozen? _=_
   simpa using f1
  ·exact(hr.cut hle hc).only hO.drew hB
  ·show g<(w.setCell _ _).heap.size
   rw[V1];exact hg
 ·have:=X7 w g 0 (.slice (if c=n then A else A.map (·.add n)) (xs.length-n) (c-n))
  exact⟨this.os,this.tape,this.output,this.size,this.block⟩
theorem Y1q (B g : Nat) (s : Rd) (n : Nat) (nI : Int) (hn : nI = (n : Int)) (hn' : n ≤ 1000000) (w : World) (h : K7 w B g s) :
    Calls Tryz.prog 143 #[.pointer (some ⟨g, 0, none⟩), .int .i64 nI] w (X2r w B g n (Z0i s n)) := by
  subst hn
  obtain ⟨xs, bad⟩ := s
  obtain ⟨A, c, hc, c0, c1, f0, f1, hr, hB, hg⟩ := h
  dsimp only at hc c0 c1 hr
  by_cases hok : bad = false ∧ n ≤ xs.length
  · rw [J4q _ _ hok]
    obtain ⟨rfl, hle⟩ := hok
    have hnI : (n : Int) ≤ (xs.length : Int) := by omega
    have hnc : (n : Int) ≤ (c : Int) := by omega
    have hnI' : n ≤ c := by omega
    have hn0 : (0 : Int) ≤ (n : Int) := by omega
    have HT := Lib.hid (J8m hc hle c0 c1 f0 f1 hr hB hg)
    clear hr
    by_cases hcn : c = n
    · subst hcn
      rw [if_pos rfl, show xs.length - c = 0 by omega, Nat.sub_self] at HT
      go_enter Tryz.func143, Tryz.ntmps143
      go_wp2
      refine Z1o 0 rfl ?_
      go_wp2
      go_region
      all_goals
        go_wp2
        simp only [Exit.jump]
        go_ret
        exact HT.out
    · rw [if_neg hcn] at HT
      go_enter Tryz.func143, Tryz.ntmps143
      go_wp2
      refine Z1o 0 rfl ?_
      go_wp2
      go_region
      all_goals
        go_wp2
        simp only [Exit.jump]
        go_ret
        exact HT.out
  · rw [J0o _ _ hok]
    have c1' : (w.setCell ⟨g, 1, none⟩ (.bool true)).cell? ⟨g, 1, none⟩ = some (.bool true) := World.cell?_setCell_same _ _ _ c1
    have HT : ∀ w', RB w' w'.heap.size (some ⟨w.heap.size, 0, none⟩) (List.replicate n 0) → (w.setCell ⟨g, 1, none⟩ (.bool true)).grownBy w' none → X2r w B g n (List.replicate n 0, (xs, true)) (.returned (.slice (some ⟨w.heap.size, 0, none⟩) n n)) w' := by
      intro w' h1 h2
      refine J4r (A := A) (by simp [World.setCell]) hc ?_ c1' ?_ ?_ ?_ hB ?_ (X7 w g 1 _) h1 h2
      · rw [World.cell?_setCell_other _ _ _ _ (by simp)]; exact c0
      · simpa using f0
      · simpa using f1
      · exact hr.only ((Z6s.refl g w).set 1 _) hB
      · simpa [World.setCell] using hg
    have HT' := Lib.hid HT
    clear HT c1' hr
    have hh : bad = true ∨ (bad = false ∧ (xs.length : Int) < (n : Int)) := by
      cases bad
      · exact Or.inr ⟨rfl, by have : ¬ n ≤ xs.length := fun h => hok ⟨rfl, h⟩
                              omega⟩
      · exact Or.inl rfl
    clear hok
    rcases hh with rfl | ⟨rfl, hlt⟩
    all_goals
      go_enter Tryz.func143, Tryz.ntmps143
      go_wp2
      refine Z1o 0 rfl ?_
      go_wp2
      go_step3
      refine ⟨rfl, ?_⟩
      go_wp2_with (apply Z3h rfl _ _ 31 5 rfl Tryz.underlying31 J4 n ?_ ?_ hn' ?_; exact rfl; exact rfl; intro w2 hr2 hg2)
      simp only [Exit.jump]
      go_ret
      rw [V1] at hr2
      exact HT'.out w2 hr2 hg2
end
section
open Go.RowKit
def Rdd (w:World) (B g:Nat) (v:Value) (s:Rd) (e:Ending) (w':World):Prop:=e = .returned v∧K7 w' B g s∧w.grownBy w' (some g)
theorem X2s {xs:List UInt8}{x:UInt8}(h:xs[0]? = some x):xs.headD 0=x:=by
 cases xs with
 |nil=>cases h
 |cons y ys=>simpa using h
theorem Z9w (B g:Nat) (s:Rd) (w:World) (h:K7 w B g s):
  Calls Tryz.prog 140 #[.pointer (some ⟨g,0,none⟩)] w (Rdd w B g (.int .i64 ((T3 s).1.toNat:Int)) (T3 s).2):=by
 have K:=Lib.hid (Y1q B g s 1 1 rfl (by omega) w h);clear h;unfold T3;generalize Z0i s 1=r at *;obtain⟨V,hV⟩:∃V,r.1.headD 0=V:=⟨_,rfl⟩;rw[hV];have HV:=Lib.hid hV;clear hV;go_enter Tryz.func140,Tryz.ntmps140
 go_wp2_with fail
 (with_reducible refine K.out.mono ?_)
 rintro _ w1 ⟨A,c,rfl,hc,hl,hr,hR,hg⟩;obtain⟨b,o,x,rfl,_,hx,cx⟩:=hr.get (k:=0) (by omega);rw[Nat.add_zero] at cx;obtain rfl:x=V:=(X2s hx).symm.trans HV.out;have hub:(x.toNat:Int)<256:=by have:=x.toNat_lt;omega
 have HR:=Lib.hid hR;clear hl hr hx hR K HV
 go_wp2
 go_ret
 exact⟨rfl,HR.out,hg⟩
theorem Z5u (B g:Nat) (s:Rd) (w:World) (h:K7 w B g s):
  Calls Tryz.prog 142 #[.pointer (some ⟨g,0,none⟩)] w (Rdd w B g (.int .i64 ((M4 s).1:Int)) (M4 s).2):=by
 have K:=Lib.hid (Z9w B g s w h);clear h;have HO:=Lib.hid (Y9q (T3 s).1.toNat (T3 (T3 s).2).1 (by have:=(T3 s).1.toNat_lt;omega));have K2:=Lib.hid (fun w1 h1=>Z9w B g (T3 s).2 w1 h1);have e2:M4 s=((T3 s).1.toNat*256+(T3 (T3 s).2).1.toNat,(T3 (T3 s).2).2):=rfl;rw[e2];clear e2;have h1:=(T3 s).1.toNat_lt;have h2:=(T3 (T3 s).2).1.toNat_lt;generalize (T3 s).2=s1 at *;generalize (T3 s).1.toNat=x1 at *;generalize hx2:(T3 s1).1=x2 at *;generalize (T3 s1).2=s2 at *;clear hx2;have i1:(x1:Int)≤255:=by omega
 go_enter Tryz.func142,Tryz.ntmps142
 go_wp2_with fail
 (with_reducible refine K.out.mono ?_)
 rintro _ w1 ⟨rfl,hR,hg⟩
 go_wp2_with fail
 (with_reducible refine(K2.out w1 hR).mono ?_)
 rintro _ w2 ⟨rfl,hR2,hg2⟩;clear K K2 hR
 go_wp2
 go_ret
 exact⟨by rw[HO.out];rfl,hR2,hg.trans hg2⟩
theorem RB.bytes_of {w:World}{B:Nat}{ad:Addr}{xs:List UInt8}(h:RB w B (some ad) xs):∀j (hj:j<xs.length),w.cell? (ad.add j)=some (.int .u8 (xs[j].toNat:Int)):=by
 intro j hj;obtain⟨ad',x,e,_,hx,hc⟩:=h.at_ hj;injection e with e
 subst e;rw[hc,List.getElem?_eq_getElem hj] at *;injection hx with hx
 rw[hx]
theorem Z1a {P:Program}{w:World}{src dst e:TypeId}(hs:P.underlying src=some (.slice e)) (he:P.underlying e=some (.int .u8)) (hd:P.underlying dst=some .string) {B:Nat}{A:Option Addr}{xs:List UInt8}(h:RB w B A xs) {n:Nat}(hn:xs.length=n) (c:Nat):
  (convert src dst (.slice A n c)).run P w = .ok (.string (mkS xs)) w:=by
 subst hn;cases A with
 |none=>
  have h0:xs=[]:=by
   rcases Nat.eq_zero_or_pos xs.length with h0 |h0
   ·exact List.eq_nil_of_length_eq_zero h0
   ·obtain⟨_,e,_⟩:=h.2 h0;cases e
  subst h0;exact Lib.run_convert_nil_bytes w src dst e c hs he hd
 |some ad=>exact run_convert_bytes_back w src dst e ad c xs hs he hd h.bytes_of
theorem X8o (s:Rd):(M4 s).1<65536:=by
 have h1:=(T3 s).1.toNat_lt;have h2:=(T3 (T3 s).2).1.toNat_lt;show (T3 s).1.toNat*256+(T3 (T3 s).2).1.toNat<65536;omega
theorem Z3p (B g:Nat) (s:Rd) (w:World) (h:K7 w B g s):
  Calls Tryz.prog 141 #[.pointer (some ⟨g,0,none⟩)] w (Rdd w B g (.string (W3 s).1) (W3 s).2):=by
 have K:=Lib.hid (Z5u B g s w h);clear h;have K2:=Lib.hid (fun w1 h1=>Y1q B g (M4 s).2 (M4 s).1 ((M4 s).1:Int) rfl (by have:=X8o s;omega) w1 h1);unfold W3;generalize M4 s=t at *;obtain⟨n,s1⟩:=t;generalize Z0i s1 n=r at *;obtain⟨ys,s2⟩:=r;go_enter Tryz.func141,Tryz.ntmps141
 go_wp2_with fail
 (with_reducible refine K.out.mono ?_)
 rintro _ w1 ⟨rfl,hR,hg⟩
 go_wp2_with fail
 (with_reducible refine(K2.out w1 hR).mono ?_)
 rintro _ w2 ⟨A,c,rfl,hc,hl,hr,hR2,hg2⟩;have hrun:=Z1a (P:=Tryz.prog) (src:=31) (dst:=9) (e:=5) Tryz.underlying31 Tryz.underlying5 Tryz.underlying9 hr hl c;clear K K2 hR hr hl
 go_wp2
 go_ret
 exact⟨rfl,hR2,hg.trans hg2⟩
theorem Y5x (B g:Nat) (s:Rd) (w:World) (h:K7 w B g s):
  Calls Tryz.prog 164 #[.pointer (some ⟨g,0,none⟩)] w fun e w'=>e = .returned (.bool (!s.2&&decide (0<s.1.length)))∧w=w':=by
 obtain⟨xs,bad⟩:=s;obtain⟨A,c,hc,c0,c1,f0,f1,hr,hB,hg⟩:=h;dsimp only at hc c0 c1 hr;clear hr f0 f1;cases bad with
 |true=>
  go_enter Tryz.func164,Tryz.ntmps164
  go_wp2
  go_ret
  exact⟨rfl,rfl⟩
 |false=>
  by_cases h0:0<xs.length
  ·have e1:(0:Int)<(xs.length:Int):=by omega
   have HD:=Lib.hid (decide_eq_true h0);clear h0;go_enter Tryz.func164,Tryz.ntmps164
   go_wp2
   go_ret
   exact⟨by rw[HD.out];rfl,rfl⟩
  ·have e1:¬(0:Int)<(xs.length:Int):=by omega
   have HD:=Lib.hid (decide_eq_false h0);clear h0;go_enter Tryz.func164,Tryz.ntmps164
   go_wp2
   go_ret
   exact⟨by rw[HD.out];rfl,rfl⟩
end
section
open Go.RowKit
theorem Y8i (s:Rd) (n:Nat) (h:¬n≤s.1.length):L9 s n=(List.replicate n 0,([],true)):=by unfold L9;rw[if_neg h]
theorem X2t (s:Rd) (n:Nat) (h:n≤s.1.length):L9 s n=(s.1.take n,(s.1.drop n,s.2)):=by unfold L9;rw[if_pos h]
theorem Y8j {w w':World}{B g n:Nat}{v0 v1:Value}(c0:w.cell? ⟨g,0,none⟩=some v0) (c1:w.cell? ⟨g,1,none⟩=some v1)
  (f0:w.frozen? ⟨g,0,none⟩=false) (f1:w.frozen? ⟨g,1,none⟩=false) (hB:B≤g) (hg:g<w.heap.size)
  (hr2:RB w' w'.heap.size (some ⟨w.heap.size,0,none⟩) (List.replicate n 0)) (h2:((w.setCell ⟨g,1,none⟩ (.bool true)).setCell ⟨g,0,none⟩ (.slice none 0 0)).grownBy w' none):
  X2r w B g n (List.replicate n 0,([],true)) (.returned (.slice (some ⟨w.heap.size,0,none⟩) n n)) w':=by
 refine⟨_,_,rfl,Nat.le_refl _,by simp,hr2, ?_,((X7 w g 1 _).trans (X7 _ g 0 _)).trans (Y7t h2 _)⟩;have:K7 ((w.setCell ⟨g,1,none⟩ (.bool true)).setCell ⟨g,0,none⟩ (.slice none 0 0)) B g ([],true):=by
  refine K7.of (A:=none) (n:=0) (c:=0) rfl (Nat.le_refl _) ?_ ?_ ?_ ?_ RB.nil hB ?_
  ·exact World.cell?_setCell_same _ _ _ ((World.cell?_setCell_other _ _ _ _ (by simp)).trans c0)
  ·rw[World.cell?_setCell_other _ _ _ _ (by simp)]
   exact World.cell?_setCell_same _ _ _ c1
  ·simpa using f0
  ·simpa using f1
  ·rw[V1,V1];exact hg
 exact this.kept h2 (by simp) (by simp)
theorem X2u {w:World}{B g n c:Nat}{A:Option Addr}{xs:List UInt8}{bad:Bool}(hc:xs.length≤c) (hle:n≤xs.length) (c0:w.cell? ⟨g,0,none⟩=some (.slice A xs.length c)) (c1:w.cell? ⟨g,1,none⟩=some (.bool bad))
  (f0:w.frozen? ⟨g,0,none⟩=false) (f1:w.frozen? ⟨g,1,none⟩=false) (hr:RB w B A xs) (hB:B≤g) (hg:g<w.heap.size):
  X2r w B g n (xs.take n,(xs.drop n,bad)) (.returned (.slice A n c)) (w.setCell ⟨g,0,none⟩ (.slice (if c=n then A else A.map (·.add n)) (xs.length-n) (c-n))):=by
 have hO:=(Z6s.refl g w).set 0 (.slice (if c=n then A else A.map (·.add n)) (xs.length-n) (c-n));refine⟨_,_,rfl,by omega,by simp;omega, ?_, ?_, ?_⟩
 ·exact((hr.take n).only hO hB).more (by rw[V1];omega)
 ·refine K7.of (A:=(if c=n then A else A.map (·.add n))) (n:=xs.length-n) (c:=c-n) (by simp) (by omega) ?_ ?_ ?_ ?_ ?_ hB ?_
  ·exact World.cell?_setCell_same _ _ _ c0
  ·rw[World.cell?_setCell_other _ _ _ _ (by simp)];exact c1
  ·simpa using f0
  ·simpa using f1
  ·exact(hr.cut hle hc).only hO hB
  ·rw[V1];exact hg
 ·exact X7 w g 0 _
theorem Y4e (B g:Nat) (s:Rd) (n:Nat) (nI:Int) (hn:nI=(n:Int)) (hn':n≤1000000) (w:World) (h:K7 w B g s):
  Calls Tryz.prog 148 #[.pointer (some ⟨g,0,none⟩), .int .i64 nI] w (X2r w B g n (L9 s n)):=by
 subst hn;obtain⟨xs,bad⟩:=s;obtain⟨A,c,hc,c0,c1,f0,f1,hr,hB,hg⟩:=h;dsimp only at hc c0 c1 hr;by_cases hle:n≤xs.length
 ·rw[X2t _ _ hle]
  have hnI:(n:Int)≤(xs.length:Int):=by omega
  have hnc:(n:Int)≤(c:Int):=by omega
  have hnI':n≤c:=by omega
  have hn0:(0:Int)≤(n:Int):=by omega
  have HT:=Lib.hid (X2u hc hle c0 c1 f0 f1 hr hB hg);clear hr;by_cases hcn:c=n
  ·subst hcn
   rw[if_pos rfl,show xs.length-c=0 by omega,Nat.sub_self] at HT;go_enter Tryz.func148,Tryz.ntmps148
   go_wp2
   go_ret
   exact HT.out
  ·rw[if_neg hcn] at HT
   go_enter Tryz.func148,Tryz.ntmps148
   go_wp2
   go_ret
   exact HT.out
 ·rw[Y8i _ _ hle]
  have HT:=Lib.hid (fun w' h1 h2=>Y8j (w':=w') (n:=n) c0 c1 f0 f1 hB hg h1 h2);have hlt:(xs.length:Int)<(n:Int):=by omega
  clear hr hle;go_enter Tryz.func148,Tryz.ntmps148
  go_wp2_with (apply Z3h rfl _ _ 31 5 rfl Tryz.underlying31 J4 n ?_ ?_ hn' ?_;exact rfl;exact rfl;intro w2 hr2 hg2)
  go_ret
  simp only[V1] at hr2;exact HT.out w2 hr2 hg2
theorem J0p (s:Rd) (n:Nat):(L9 s n).1.length=n:=by
 unfold L9;split<;>simp;omega
theorem Y4f (B g:Nat) (s:Rd) (w:World) (h:K7 w B g s):
  Calls Tryz.prog 149 #[.pointer (some ⟨g,0,none⟩)] w (Rdd w B g (.int .i64 ((Z2g s).1:Int)) (Z2g s).2):=by
 have K:=Lib.hid (Y4e B g s 2 2 rfl (by omega) w h);clear h;unfold Z2g;generalize L9 s 2=r at *;obtain⟨ys,s1⟩:=r;go_enter Tryz.func149,Tryz.ntmps149
 go_wp2_with fail
 (with_reducible refine K.out.mono ?_)
 rintro _ w1 ⟨A,c,rfl,hc,hl,hr,hR,hg⟩;have KO:=Lib.hid (ofW ys 2 hl A c w1 hr (by omega));clear hr hl K
 go_wp2_with fail
 (with_reducible refine KO.out.mono ?_)
 rintro _ w2 ⟨rfl,rfl⟩
 go_wp2
 go_ret
 exact⟨rfl,hR,hg⟩
theorem X8p (s:Rd):(Z2g s).1<65536:=by
 have h:=Y0e (L9 s 2).1;rw[J0p] at h;exact h
theorem Z5v (B g:Nat) (s:Rd) (w:World) (h:K7 w B g s):
  Calls Tryz.prog 150 #[.pointer (some ⟨g,0,none⟩)] w (Rdd w B g (.string (S7 s).1) (S7 s).2):=by
 have K:=Lib.hid (Y4f B g s w h);clear h;have K2:=Lib.hid (fun w1 h1=>Y4e B g (Z2g s).2 (Z2g s).1 ((Z2g s).1:Int) rfl (by have:=X8p s;omega) w1 h1);unfold S7;generalize Z2g s=t at *;obtain⟨n,s1⟩:=t;generalize L9 s1 n=r at *;obtain⟨ys,s2⟩:=r;go_enter Tryz.func150,Tryz.ntmps150
 go_wp2_with fail
 (with_reducible refine K.out.mono ?_)
 rintro _ w1 ⟨rfl,hR,hg⟩
 go_wp2_with fail
 (with_reducible refine(K2.out w1 hR).mono ?_)
 rintro _ w2 ⟨A,c,rfl,hc,hl,hr,hR2,hg2⟩;have hrun:=Z1a (P:=Tryz.prog) (src:=31) (dst:=9) (e:=5) Tryz.underlying31 Tryz.underlying5 Tryz.underlying9 hr hl c;clear K K2 hR hr hl
 go_wp2
 go_ret
 exact⟨rfl,hR2,hg.trans hg2⟩
end
section
open Go.RowKit
abbrev Z1 (m:Mq) (vc vw vf:Value):List Value:=
 [iz m.kind, .string m.client, .bool m.clean,iz m.keep, .bool m.won, .string m.wt, .string m.wp,iz m.wq, .bool m.wr, .string m.user, .bool m.hu, .string m.pass,
  .bool m.hp, .bool m.present,iz m.code,vc, .bool m.dup,iz m.qos, .bool m.retain, .string m.topic,iz m.id, .string m.payload,vw,vf]
theorem K7.store {w:World}{B g:Nat}{s:Rd}(h:K7 w B g s) {a:Addr}(ha:B≤a.block) (hne:a.block≠g) (v:Value):K7 (w.setCell a v) B g s:=by
 obtain⟨A,c,hc,c0,c1,f0,f1,hr,hB,hg⟩:=h;refine⟨A,c,hc, ?_, ?_, ?_, ?_, ?_,hB, ?_⟩
 ·rw[World.cell?_setCell_other _ _ _ _ (by intro e;exact hne (by rw[e]))];exact c0
 ·rw[World.cell?_setCell_other _ _ _ _ (by intro e;exact hne (by rw[e]))];exact c1
 ·simpa using f0
 ·simpa using f1
 ·exact hr.keep fun p hp=>World.cell?_setCell_other _ _ _ _ (by intro e;rw[←e] at hp;omega)
 ·rw[V1];exact hg
theorem Y3p (f:UInt8) (n:Nat) (hn:n<256):bits .and .i64 (f.toNat:Int) (n:Int)=((f.toNat&&&n:Nat):Int):=by
 have:=f.toNat_lt;exact Z1d f.toNat n (by omega) (by omega)
theorem X2v (f:UInt8) (n:Nat) (hn:n<256):U4 f (UInt8.ofNat n)=(bits .and .i64 (f.toNat:Int) (n:Int) != 0):=by
 rw[Y3p f n hn];unfold U4;have e:(f&&&UInt8.ofNat n).toNat=f.toNat&&&n:=by
  rw[UInt8.toNat_and,UInt8.toNat_ofNat',Nat.mod_eq_of_lt (by omega)]
 by_cases h:f&&&UInt8.ofNat n=0
 ·have e2:f.toNat&&&n=0:=by rw[←e,h];rfl
  rw[h,e2];rfl
 ·have e2:¬f.toNat&&&n=0:=by
   intro h2;rw[←e] at h2;exact h (UInt8.toNat_inj.1 (by rw[h2];rfl))
  have a1:(f&&&UInt8.ofNat n != 0)=true:=by simpa using h
  have a2:(((f.toNat&&&n:Nat):Int) != 0)=true:=by
   rw[bne_iff_ne];omega
  rw[a1,a2]
end
section
open Go.RowKit
theorem Y5y:(Tryz.prog.info? 3).map (fun i=>(i.zero,i.size,i.bytes))=some (some (iz 0),1,8):=by kernel_rfl
theorem Z9e:(Tryz.prog.info? 9).map (fun i=>(i.zero,i.size,i.bytes))=some (some (.string ⟨#[]⟩),1,16):=by kernel_rfl
theorem Y2p:(Tryz.prog.info? 161).map (fun i=>(i.zero,i.size,i.bytes))=some (some (.agg #[.string ⟨#[]⟩,iz 0]),2,24):=by kernel_rfl
theorem Y5z (s:Rd) (n:Nat) (h:(Z0i s n).2.2=false):s.2=false∧(Z0i s n).2.1.length+n=s.1.length:=by
 unfold Z0i at h ⊢
 split
 ·rename_i h1
  rw[if_pos h1] at h;exact⟨h1.1,by simp;omega⟩
 ·rename_i h1
  rw[if_neg h1] at h;cases h
theorem Z9x (s:Rd) (h:(T3 s).2.2=false):s.2=false∧(T3 s).2.1.length+1=s.1.length:=Y5z s 1 h
theorem J0q (s:Rd) (h:(M4 s).2.2=false):s.2=false∧(M4 s).2.1.length+2=s.1.length:=by
 obtain⟨a,b⟩:=Z9x (T3 s).2 h;obtain⟨c,d⟩:=Z9x s a;have:(M4 s).2.1=(T3 (T3 s).2).2.1:=rfl;rw[this];exact⟨c,by omega⟩
theorem Y6a (s:Rd) (h:(W3 s).2.2=false):s.2=false∧(W3 s).2.1.length+2≤s.1.length:=by
 obtain⟨a,b⟩:=Y5z (M4 s).2 (M4 s).1 h;obtain⟨c,d⟩:=J0q s a;have:(W3 s).2.1=(Z0i (M4 s).2 (M4 s).1).2.1:=rfl;rw[this];exact⟨c,by omega⟩
theorem K7.drew {w:World}{B g:Nat}{s:Rd}(h:K7 w B g s):K7 w.drew B g s:=h
theorem K7.row_of {w w':World}{B g:Nat}{s:Rd}{base:Nat}{e:TypeId}{size n:Nat}{v:Value}{xs:List Value}(h:K7 w B g s) (hO:w.ownsRow base e size v n xs) (hg:g<base) (o:Obj) (h3:(w.alloc o).grownBy w' v.ownBlock):K7 w' B g s:=by
 have hB:B≤g:=by obtain⟨_,_,_,_,_,_,_,_,h,_⟩:=h;exact h
 have h1:K7 (w.alloc o) B g s:=h.kept (World.grownBy_alloc w o none) (by simp) (by simp);exact h1.kept h3 (fun k hk=>by have:=(hO.lt k hk).1;omega) (Q1 hO (Or.inl hg))
theorem Y6b (s:Rd) (n:Nat):(Z0i s n).2.1.length≤s.1.length:=by
 unfold Z0i;split<;>simp
theorem Z8c (s:Rd):(M4 s).2.1.length≤s.1.length:=Nat.le_trans (Y6b (T3 s).2 1) (Y6b s 1)
end
section
open Go.RowKit
theorem Z0v (w:World):(zeroValue 49).run Tryz.prog w = .ok (.agg (Z1 (N6 0) Z2 Z2 Z2).toArray) w:=by kernel_rfl
theorem size_mq:(Tryz.prog.info? 49).map (·.size)=some 24:=by kernel_rfl
end
section
open Go.RowKit
def T4 (on:Bool) (t b:ByteArray) (q:Int) (r:Bool):Bool:=if on then G3 t 1 64&&(decide ((b.size:Int)≤128)&&V6 q 0 2) else emp t&&(emp b&&(q==0 && !r))
theorem J0r (m:Mq):Z9c m=T4 m.won m.wt m.wp m.wq m.wr:=rfl
theorem Z4c {s:ByteArray}(h:s.toList=[]):emp s=true:=by
 rw[Lib.toList_data] at h;have:s.size=0:=by rw[←Z0p];show s.data.toList.length=0;rw[h];rfl
 unfold emp;rw[this];rfl
theorem Z2v {s:ByteArray}(h:¬s.toList=[]):emp s=false:=by
 rw[Lib.toList_data] at h;unfold emp;rw[beq_eq_false_iff_ne];intro e;rw[←Z0p] at e;exact h (List.eq_nil_of_length_eq_zero e)
theorem X2w (t b:ByteArray) (q:Int) (r:Bool) (w:World):
  Calls Tryz.prog 166 #[.agg #[.bool false, .string t, .string b, .int .i64 q, .bool r]] w fun e w'=>e = .returned (.bool (T4 false t b q r))∧Below w.heap.size w w':=by
 obtain⟨X,hX⟩:∃X,T4 false t b q r=X:=⟨_,rfl⟩;rw[hX];have HX:=Lib.hid hX;clear hX;have HB:=Lib.hid (fun r f=>(Below.refl w.heap.size w).alloc (Nat.le_refl _) (.cells r f));by_cases h1:t.toList=[]
 ·have E1:=Lib.hid (Z4c h1)
  by_cases h2:b.toList=[]
  ·have E2:=Lib.hid (Z4c h2)
   by_cases h3:q=0
   ·subst h3
    cases r;all_goals
     go_enter Tryz.func166,Tryz.ntmps166
     go_wp2
     go_ret
     exact⟨by rw[←HX.out];unfold T4;rw[E1.out,E2.out];rfl,HB.out _ _⟩
   ·have h3':(q==0)=false:=by rw[beq_eq_false_iff_ne];exact h3
    have E3:=Lib.hid h3';go_enter Tryz.func166,Tryz.ntmps166
    go_wp2
    go_ret
    exact⟨by rw[←HX.out];unfold T4;rw[E1.out,E2.out,E3.out];rfl,HB.out _ _⟩
  ·have E2:=Lib.hid (Z2v h2)
   go_enter Tryz.func166,Tryz.ntmps166
   go_wp2
   go_ret
   exact⟨by rw[←HX.out];unfold T4;rw[E1.out,E2.out];rfl,HB.out _ _⟩
 ·have E1:=Lib.hid (Z2v h1)
  go_enter Tryz.func166,Tryz.ntmps166
  go_wp2
  go_ret
  exact⟨by rw[←HX.out];unfold T4;rw[E1.out];rfl,HB.out _ _⟩
theorem X5x (t b:ByteArray) (q:Int) (r:Bool) (ht:t.size≤140737488351232) (w:World) (hT:Wd w):
  Calls Tryz.prog 166 #[.agg #[.bool true, .string t, .string b, .int .i64 q, .bool r]] w fun e w'=>e = .returned (.bool (T4 true t b q r))∧Below w.heap.size w w':=by
 have hb0:=Lib.hid (G0 w (.cells #[.bool true, .string t, .string b, .int .i64 q, .bool r] 44));have HT:=Lib.hid (Z5c t ht 1 64 _ (hT.below hb0.out));clear hT;have hlt:w.heap.size<(w.alloc (.cells #[.bool true, .string t, .string b, .int .i64 q, .bool r] 44)).heap.size:=T7 _ _;have HN:=Lib.hid (fun w1=>P7 q 0 2 w1);generalize hX:G3 t 1 64=X at HT;generalize hY:V6 q 0 2=Y at HN;have HP:=Lib.hid (show T4 true t b q r=(X&&(decide ((b.size:Int)≤128)&&Y)) by unfold T4;rw[hX,hY];rfl);generalize T4 true t b q r=Z at *;clear hX hY;go_enter Tryz.func166,Tryz.ntmps166
 go_wp2_with fail
 (with_reducible refine HT.out.mono ?_)
 rintro _ w1 ⟨rfl,hb1⟩;have HB1:=Lib.hid (hb0.out.trans (hb1.mono (Nat.le_of_lt hlt)));have c2:w1.cell? ⟨w.heap.size,2,none⟩=some (.string b):=by rw[T6 hb1 hlt];simp
 have c3:w1.cell? ⟨w.heap.size,3,none⟩=some (.int .i64 q):=by rw[T6 hb1 hlt];simp
 clear HT hb1 hb0;by_cases h1:(b.size:Int)≤128
 ·rw[decide_eq_true h1] at HP
  cases X;all_goals
   go_wp2_with (go_at_call 151;(with_reducible refine(HN.out w1).mono ?_);rintro _ w2 ⟨rfl,rfl⟩)
   go_ret
   exact⟨by rw[HP.out];rfl,HB1.out⟩
 ·rw[decide_eq_false h1] at HP
  cases X;all_goals
   go_wp2_with (go_at_call 151;(with_reducible refine(HN.out w1).mono ?_);rintro _ w2 ⟨rfl,rfl⟩)
   go_ret
   exact⟨by rw[HP.out];rfl,HB1.out⟩
theorem J0s (on:Bool) (t b:ByteArray) (q:Int) (r:Bool) (ht:t.size≤140737488351232) (w:World) (hT:Wd w):
  Calls Tryz.prog 166 #[.agg #[.bool on, .string t, .string b, .int .i64 q, .bool r]] w fun e w'=>e = .returned (.bool (T4 on t b q r))∧Below w.heap.size w w':=by
 cases on
 ·exact X2w t b q r w
 ·exact X5x t b q r ht w hT
theorem X5y (t b:ByteArray) (q:Int) (r:Bool) (w:World):
  Calls Tryz.prog 72 #[.agg #[.bool false, .string t, .string b, .int .i64 q, .bool r]] w fun e w'=>e = .returned (.bool (T4 false t b q r))∧Below w.heap.size w w':=by
 obtain⟨X,hX⟩:∃X,T4 false t b q r=X:=⟨_,rfl⟩;rw[hX];have HX:=Lib.hid hX;clear hX;have HB:=Lib.hid (fun r f=>(Below.refl w.heap.size w).alloc (Nat.le_refl _) (.cells r f));by_cases h1:t.toList=[]
 ·have E1:=Lib.hid (Z4c h1)
  by_cases h2:b.toList=[]
  ·have E2:=Lib.hid (Z4c h2)
   by_cases h3:q=0
   ·subst h3
    cases r;all_goals
     go_enter Tryz.func72,Tryz.ntmps72
     go_wp2
     go_ret
     exact⟨by rw[←HX.out];unfold T4;rw[E1.out,E2.out];rfl,HB.out _ _⟩
   ·have h3':(q==0)=false:=by rw[beq_eq_false_iff_ne];exact h3
    have E3:=Lib.hid h3';go_enter Tryz.func72,Tryz.ntmps72
    go_wp2
    go_ret
    exact⟨by rw[←HX.out];unfold T4;rw[E1.out,E2.out,E3.out];rfl,HB.out _ _⟩
  ·have E2:=Lib.hid (Z2v h2)
   go_enter Tryz.func72,Tryz.ntmps72
   go_wp2
   go_ret
   exact⟨by rw[←HX.out];unfold T4;rw[E1.out,E2.out];rfl,HB.out _ _⟩
 ·have E1:=Lib.hid (Z2v h1)
  go_enter Tryz.func72,Tryz.ntmps72
  go_wp2
  go_ret
  exact⟨by rw[←HX.out];unfold T4;rw[E1.out];rfl,HB.out _ _⟩
theorem J0t (t b:ByteArray) (q:Int) (r:Bool) (ht:t.size≤140737488351232) (w:World) (hT:Wd w):
  Calls Tryz.prog 72 #[.agg #[.bool true, .string t, .string b, .int .i64 q, .bool r]] w fun e w'=>e = .returned (.bool (T4 true t b q r))∧Below w.heap.size w w':=by
 have hb0:=Lib.hid (G0 w (.cells #[.bool true, .string t, .string b, .int .i64 q, .bool r] 44));have HT:=Lib.hid (Z7h t ht 1 64 _ (hT.below hb0.out));clear hT;have hlt:w.heap.size<(w.alloc (.cells #[.bool true, .string t, .string b, .int .i64 q, .bool r] 44)).heap.size:=T7 _ _;have HN:=Lib.hid (fun w1=>Z9s q 2 w1);generalize hX:G3 t 1 64=X at HT;generalize hY:V6 q 0 2=Y at HN;have HP:=Lib.hid (show T4 true t b q r=(X&&(decide ((b.size:Int)≤128)&&Y)) by unfold T4;rw[hX,hY];rfl);generalize T4 true t b q r=Z at *;clear hX hY;go_enter Tryz.func72,Tryz.ntmps72
 go_wp2_with fail
 (with_reducible refine HT.out.mono ?_)
 rintro _ w1 ⟨rfl,hb1⟩;have HB1:=Lib.hid (hb0.out.trans (hb1.mono (Nat.le_of_lt hlt)));have c2:w1.cell? ⟨w.heap.size,2,none⟩=some (.string b):=by rw[T6 hb1 hlt];simp
 have c3:w1.cell? ⟨w.heap.size,3,none⟩=some (.int .i64 q):=by rw[T6 hb1 hlt];simp
 clear HT hb1 hb0;by_cases h1:(b.size:Int)≤128
 ·rw[decide_eq_true h1] at HP
  cases X;all_goals
   go_wp2_with (go_at_call 24;(with_reducible refine(HN.out w1).mono ?_);rintro _ w2 ⟨rfl,rfl⟩)
   go_ret
   exact⟨by rw[HP.out];rfl,HB1.out⟩
 ·rw[decide_eq_false h1] at HP
  cases X;all_goals
   go_wp2_with (go_at_call 24;(with_reducible refine(HN.out w1).mono ?_);rintro _ w2 ⟨rfl,rfl⟩)
   go_ret
   exact⟨by rw[HP.out];rfl,HB1.out⟩
theorem J4s (on:Bool) (t b:ByteArray) (q:Int) (r:Bool) (ht:t.size≤140737488351232) (w:World) (hT:Wd w):
  Calls Tryz.prog 72 #[.agg #[.bool on, .string t, .string b, .int .i64 q, .bool r]] w fun e w'=>e = .returned (.bool (T4 on t b q r))∧Below w.heap.size w w':=by
 cases on
 ·exact X5y t b q r w
 ·exact J0t t b q r ht w hT
end
section
open Go.RowKit
theorem S8 {a b:Int}(h:(a==b)=false):¬a=b:=by simpa using h
def J8o (ops:Array Oper) (n:Nat):Nat→List Oper→List (Nat×Value)→Option (List (Nat×Value))
 |0,_,l=>some l
 |_+1,[],_=>none
 |m+1,o::os,l=>match o.guard,o.dst with
  |some (j,b),some k=>match (ops[j]?).bind (·.dst) with
   |some d=>match Y2i l d with
    |some v=>bif noB v b&&Nat.blt k n then J8o ops n m os ((k,undef)::l) else none
    |none=>none
   |none=>none
  |_,_=>none
section
variable {P:Program}{ops:Array Oper}{a:Act}{w:World}{Q:Exit→Act→World→Prop}{n:Nat}
theorem Z9.offs:∀(m:Nat) {L:List Oper}{l l':List (Nat×Value)}{a:Act},Z9 a n l→J8o ops n m L l=some l'→(∀a',Z9 a' n l'→wpList P ops Q (L.drop m) a' w)→wpList P ops Q L a w
 |0,L,l,l',a,H,h0,h=>by
  simp only[J8o,Option.some.injEq] at h0;subst h0;exact h a H
 |m+1,[],l,l',a,H,h0,h=>by cases h0
 |m+1,o::os,l,l',a,H,h0,h=>by
  unfold J8o at h0
  split at h0
  ·next j b k hg hd=>
   split at h0
   ·next d hj=>
    split at h0
    ·next v hv=>
     cases hb:(noB v b&&Nat.blt k n) with
     |false=>rw[hb,cond_false] at h0;cases h0
     |true=>
      rw[hb,cond_true] at h0;rw[Bool.and_eq_true] at hb;have hw:Region.wanted o (yielded ops a.tmps)=false:=by
       unfold Region.wanted;rw[hg];have:=Y3m hj (H.at_ d v hv) hb.1
       simpa using this
      exact P5 hw k hd (Z9.offs m (H.put hb.2 undef) h0 h)
    ·cases h0
   ·cases h0
  ·cases h0
end
section
variable {P:Program}{ops:Array Oper}{rest:List Oper}{o:Oper}{a:Act}{w:World}{Q:Exit→Act→World→Prop}{n:Nat}{l:List (Nat×Value)}
theorem Z9.lenS (H:Z9 a n l) (hw:Region.wanted o (yielded ops a.tmps)=true) {d:Nat}{s:Operand}{t:TypeId}{u:ByteArray}(ho:o.op = .call { callee:=.builtin .len,args:=#[s],argTypes:=#[t] }) (hd:o.dst=some d) (hn:Nat.blt d n=true) (hs:W1 l s=some (.string u)) (ht:P.underlying t=some .string)
  (h:∀a',Z9 a' n ((d,iz u.size)::l)→wpList P ops Q rest a' w):wpList P ops Q (o::rest) a w:=
 H.go hw hd hn _ (J3n ho (H.ev hs) ht) h
end
theorem Q0s (u:ByteArray) (x y:Operand) (w:World):(do eqGuard .eql 9 x y (.string u) (.string { data:=#[] });binOp .eql 9 (.string u) (.string { data:=#[] }):Sem Value).run Tryz.prog w = .ok (.bool (emp u)) w:=by
 have e:(u.toList==(⟨#[]⟩:ByteArray).toList)=emp u:=by
  have h2:(⟨#[]⟩:ByteArray).toList=[]:=by simp
  by_cases h:u.toList=[]
  ·rw[Z4c h,h,h2];rfl
  ·rw[Z2v h,h2]
   simpa using h
 rw[Z8j,e]
theorem Y6c (g:Nat) (L:List Value) (a:Bool) (b c:ByteArray) (d:Int) (e:Bool) (w:World) (hC:X5 w g L) (hl:8<L.length):
  (Instr.storeAt 44 (.pointer (some ⟨g,4,none⟩)) (.agg #[.bool a, .string b, .string c,iz d, .bool e])).run Tryz.prog w = .ok () (w.setCell ⟨g,4,none⟩ (.bool a) |>.setCell ⟨g,5,none⟩ (.string b) |>.setCell ⟨g,6,none⟩ (.string c) |>.setCell ⟨g,7,none⟩ (iz d) |>.setCell ⟨g,8,none⟩ (.bool e)):=by
 have ht:w.there g 4 5:=fun j hj=>by
  obtain⟨c1,c2⟩:=hC (4+j) _ (List.getElem?_eq_getElem (by omega));exact⟨by rw[c1];rfl,c2⟩
 exact run_storeAt_mid w g 4 44 #[.bool a, .string b, .string c,iz d, .bool e] ht (by kernel_rfl) (all_oneCell_toArray (by intro v hv;simp only[List.mem_cons,List.not_mem_nil,or_false] at hv;rcases hv with rfl |rfl |rfl |rfl |rfl<;>rfl))
end
section
open Go.RowKit
abbrev pz6:List Value:=[iz 0,iz 0,iz 0,iz 0,iz 0,Z2]
theorem S9:(Tryz.prog.info? 89).map (·.size)=some 6:=by kernel_rfl
theorem X2x (w:World):(zeroValue 89).run Tryz.prog w = .ok (.agg pz6.toArray) w:=by kernel_rfl
theorem J4t (u v:Int) (x y:Operand) (w:World):(do eqGuard .and 5 x y (.int .u8 u) (.int .u8 v);binOp .and 5 (.int .u8 u) (.int .u8 v):Sem Value).run Tryz.prog w = .ok (.int .u8 (bits .and .u8 u v)) w:=by kernel_rfl
theorem X8q (v:Nat) (h:v<256) (x y:Operand) (w:World):(do eqGuard .and 5 x y (.int .u8 (v:Int)) (.int .u8 15);binOp .and 5 (.int .u8 (v:Int)) (.int .u8 15):Sem Value).run Tryz.prog w = .ok (.int .u8 ((v%16:Nat):Int)) w:=by
 have e:bits .and .u8 (v:Int) 15=((v%16:Nat):Int):=by
  have:=u8_and_nat v 15 h (by omega);rw[show (15:Nat)=2^4-1 from rfl,Nat.and_two_pow_sub_one_eq_mod] at this;exact this
 rw[←e];exact J4t _ _ _ _ _
theorem X0d (v:Nat) (_h:v<256) (x y:Operand) (w:World):(do eqGuard .shr 5 x y (.int .u8 (v:Int)) (.int .u64 4);binOp .shr 5 (.int .u8 (v:Int)) (.int .u64 4):Sem Value).run Tryz.prog w = .ok (.int .u8 ((v/16:Nat):Int)) w:=by
 simp[go_sem]
theorem Z0l (v:Nat) (h:v<256) (w:World):(convert 5 3 (.int .u8 (v:Int))).run Tryz.prog w = .ok (iz v) w:=by
 have:IntKind.i64.wrap (v:Int)=(v:Int):=IntWalk.i64_in _ (by omega);simp[go_sem,this]
theorem X0e (v:Nat) (h:v<256) (x y:Operand) (w:World):(do eqGuard .mul 3 x y (iz 4) (iz v);binOp .mul 3 (iz 4) (iz v):Sem Value).run Tryz.prog w = .ok (iz ((4*v:Nat):Int)) w:=by
 have:IntKind.i64.wrap (4*(v:Int))=4*(v:Int):=IntWalk.i64_in _ (by omega);simp[go_sem,this]
theorem J4u (u v:Int) (b:Bool) (h:(u != v)=b) (x y:Operand) (w:World):(do eqGuard .neq 5 x y (.int .u8 u) (.int .u8 v);binOp .neq 5 (.int .u8 u) (.int .u8 v):Sem Value).run Tryz.prog w = .ok (.bool b) w:=by
 rw[←h];simp[go_sem]
theorem Q1z (v:Nat) (h:v<65536) (x y:Operand) (w:World):(do eqGuard .andNot 3 x y (iz v) (iz 49152);binOp .andNot 3 (iz v) (iz 49152):Sem Value).run Tryz.prog w = .ok (iz ((v%16384:Nat):Int)) w:=by
 have g:∀(u v:Int) (w:World),(do eqGuard .andNot 3 x y (iz u) (iz v);binOp .andNot 3 (iz u) (iz v):Sem Value).run Tryz.prog w = .ok (iz (bits .andNot .i64 u v)) w:=fun _ _ _=>by kernel_rfl
 rw[←X1w v h];exact g _ _ _
theorem Z1w (xs:List UInt8) (k:Nat):b8 xs k<256:=UInt8.toNat_lt _
theorem X2y (xs:List UInt8) (k m:Nat):V4 xs k m<256^m:=Nat.lt_of_lt_of_le (Y0e _) (Nat.pow_le_pow_right (by omega) (by rw[List.length_take];omega))
theorem RB.b8 {w:World}{B b o k:Nat}{xs:List UInt8}(h:RB w B (some ⟨b,o,none⟩) xs) (hk:k<xs.length):w.cell? ⟨b,o+k,none⟩=some (.int .u8 ((Go.Proofs.YtlacidnnankjlaaGreatDoor.b8 xs k:Nat):Int)):=by
 obtain⟨b',o',x,e,_,hx,hc⟩:=h.get hk;injection e with e
 injection e with e1 e2
 subst e1 e2;rw[hc,Q4i hx]
theorem RB.piece {w:World}{B c k m:Nat}{A:Option Addr}{xs:List UInt8}(h:RB w B A xs) (hk:k+m≤xs.length) (hc:xs.length≤c):RB w B (if c=k then A else A.map (·.add k)) ((xs.drop k).take m):=by
 have:=(h.take (k+m)).cut (k:=k) (cap:=c) (by rw[List.length_take];omega) (by rw[List.length_take];omega);rw[List.drop_take,Nat.add_sub_cancel_left] at this;exact this
theorem X0f (xs:List UInt8) (n:Nat) (hl:xs.length=n) (A:Option Addr) (c:Nat) (hnc:n≤c) (w:World) (hx:RB w w.heap.size A xs) (k m:Nat) (hkm:k+m≤n) (hm:m≤7) (v:Nat) (hv:V4 xs k m=v):
  Calls Tryz.prog 117 #[.slice (if c=k then A else A.map (·.add k)) m (c-k)] w fun e w'=>e = .returned (iz v)∧w=w':=by
 subst hv;exact J2z ((xs.drop k).take m) m (by rw[List.length_take,List.length_drop];omega) _ _ w (hx.piece (by omega) (by omega)) hm
theorem J4v (xs : List UInt8) (n : Nat) (hl : xs.length = n) (A : Option Addr) (c : Nat) (hnc : n ≤ c) (w : World) (hx : RB w w.heap.size A xs) (hn : n ≤ 140737488351232) :
    Calls Tryz.prog 86 #[.slice A n c] w (Y4x w (X1 xs)) := by
  go_enter Tryz.func86, Tryz.ntmps86
  refine Z9.start 73 [(0, .slice A n c)] rfl rfl ⟨rfl, trivial⟩ ?_
  intro a0 H0
  refine rl ?_
  refine H0.al (X0.start w) 1 X2x fun a w1 O1 H => nt ?_
  obtain ⟨g, hg⟩ : ∃ g, w.heap.size = g := ⟨_, rfl⟩
  rw [hg] at O1 H
  have bl : ∀ {bs : List (Nat × List Value)} {w'}, X0 w g bs w' → Below w.heap.size w w' := fun h => hg ▸ h.bel
  refine Z3e (k := 0) rfl (fun a w' => ∃ er : Int, Z9 a 73 [(2, pz g), (3, iz er)] ∧ X0 w g [(g, pz6)] w' ∧ X1 xs = (.zero, er)) (fun _ _ => 0) ?_ ?_
  rotate_left
  · clear H H0 O1
    rintro a w3 ⟨er, H, O3, he⟩
    refine rl ?_
    refine H.any (w' := w3) gz rfl rfl (.agg (pz6).toArray) (by intro cs b h; cases h) (by kernel_rfl) (by kernel_rfl) fun a H => ?_
    refine H.ms 1 fun a H => ?_
    refine H.st O3 0 1 (L := pz6) (fun a w4 O4 H => nt (wp_ret ?_)) S9
    repeat (first | (with_reducible refine Z2d ?_) | (with_reducible refine Z5 ?_))
    refine bodyPost_ret (U0 Tryz.results86 _ _ _ (H.at_ 2 _ rfl) (H.at_ 3 _ rfl) (O4.get 0 rfl) Tryz.underlying89 rfl _ S9 rfl) H.df ?_
    rw [he]
    exact ⟨none, 0, rfl, World.ownsRow_nil _ _ _ _, bl O4⟩
  intro hpass
  refine H.rg 2 fun a H => nt ?_
  refine H.rg 1 fun a H => nt ?_
  replace H := H.kp [0, 2, 3]
  obtain ⟨N, hN⟩ : ∃ N, ipN xs = N := ⟨_, rfl⟩
  have hN60 : N ≤ 60 := by rw [← hN]; unfold ipN; omega
  obtain ⟨L, hL⟩ : ∃ L, V4 xs 2 2 = L := ⟨_, rfl⟩
  obtain ⟨S, hS⟩ : ∃ S, Sm.check (xs.take N) = S := ⟨_, rfl⟩
  obtain ⟨F, hF⟩ : ∃ F, V4 xs 6 2 = F := ⟨_, rfl⟩
  have x1 := hx.next (bl O1)
  refine H.rg 1 fun a H => ?_
  refine H.len gz rfl rfl rfl rfl Tryz.underlying31 fun a H => ?_
  by_cases h20 : n < 20
  · refine H.bb 0 rfl rfl rfl rfl rfl rfl (Q3 _ _ true (by rw [decide_eq_true_iff]; omega) _ _ _) rfl fun a H => nt (H.condT rfl (wp_goto ?_))
    repeat (first | (with_reducible refine block_goto ?_) | (with_reducible refine G9 ?_))
    exact N4 ⟨7, H.keep ⟨rfl, rfl, trivial⟩, O1, by unfold X1; rw [if_pos (by omega)]⟩
  refine H.bb 0 rfl rfl rfl rfl rfl rfl (Q3 _ _ false (by rw [decide_eq_false_iff_not]; omega) _ _ _) rfl fun a H => nt (H.condF rfl (Z3 (Z0 ?_)))
  refine H.rg 1 fun a H => nt ?_
  replace H := H.kp [0, 2, 3]
  obtain ⟨b, o, _, hA, hbB, _, _⟩ := x1.get (k := 0) (by omega)
  have c0 := (hA ▸ x1 : RB w1 w1.heap.size (some ⟨b, o, none⟩) xs).b8 (k := 0) (by omega)
  have hix : ∀ k, k < n → ∀ w', (Instr.indexAt 31 (.slice A n c) (iz k)).run Tryz.prog w' = .ok (.pointer (some ⟨b, o + k, none⟩)) w' := fun k hk w' => by rw [hA]; exact U7 31 Tryz.underlying31 (fun _ => by kernel_rfl) b o n c k hk w'
  have hb0 := Z1w xs 0
  refine H.rg 1 fun a H => ?_
  refine H.index gz rfl rfl rfl rfl rfl (hix 0 (by omega) _) fun a H => ?_
  refine H.ld 0 (U3 _ _ _ _ c0) fun a H => ?_
  refine H.bn 0 (X8q (b8 xs 0) hb0 _ _ _) fun a H => ?_
  refine H.cv 0 (Z0l (b8 xs 0 % 16) (by omega) _) fun a H => ?_
  refine H.bn 1 (X0e (b8 xs 0 % 16) (by omega) _ _ _) fun a H => nt ?_
  rw [show 4 * (b8 xs 0 % 16) = N from hN] at H
  replace H := H.kp [0, 2, 3, 4]
  obtain ⟨z4, hz4⟩ : ∃ z, (((b8 xs 0 / 16 : Nat) : Int) != 4) = z := ⟨_, rfl⟩
  refine H.rg 1 fun a H => ?_
  refine H.index gz rfl rfl rfl rfl rfl (hix 0 (by omega) _) fun a H => ?_
  refine H.ld 0 (U3 _ _ _ _ c0) fun a H => ?_
  refine H.bn 0 (X0d (b8 xs 0) hb0 _ _ _) fun a H => ?_
  refine H.bn 1 (J4u _ _ z4 hz4 _ _ _) fun a H => ?_
  cases z4 with
  | true =>
    refine H.offs 2 rfl fun a H => ?_
    refine H.pick gz rfl rfl rfl rfl rfl fun a H => nt (H.condT rfl (wp_goto ?_))
    have h4 : b8 xs 0 / 16 ≠ 4 := by intro e; rw [e] at hz4; cases hz4
    repeat (first | (with_reducible refine block_goto ?_) | (with_reducible refine G9 ?_))
    exact N4 ⟨1, H.keep ⟨rfl, rfl, trivial⟩, O1, by unfold X1; rw [if_neg (by omega), if_pos (.inl h4)]⟩
  | false =>
  have h4 : b8 xs 0 / 16 = 4 := by simpa [← Int.natCast_inj] using hz4
  refine H.go (H.wt rfl rfl rfl) rfl rfl _ (N2 (.inl rfl) (H.ev rfl)) fun a H => ?_
  by_cases hN20 : N < 20
  · refine H.bin (H.wt rfl rfl rfl) rfl rfl rfl rfl rfl (Q3 _ _ true (by rw [decide_eq_true_iff]; omega) _ _ _) fun a H => ?_
    refine H.pick gz rfl rfl rfl rfl rfl fun a H => nt (H.condT rfl (wp_goto ?_))
    repeat (first | (with_reducible refine block_goto ?_) | (with_reducible refine G9 ?_))
    exact N4 ⟨1, H.keep ⟨rfl, rfl, trivial⟩, O1, by unfold X1; rw [if_neg (by omega), if_pos (.inr (by omega))]⟩
  refine H.bin (H.wt rfl rfl rfl) rfl rfl rfl rfl rfl (Q3 _ _ false (by rw [decide_eq_false_iff_not]; omega) _ _ _) fun a H => ?_
  refine H.pick gz rfl rfl rfl rfl rfl fun a H => nt (H.condF rfl (Z3 (Z0 ?_)))
  have hg2 : ¬ (b8 xs 0 / 16 ≠ 4 ∨ ipN xs < 20) := by omega
  refine H.rg 1 fun a H => nt ?_
  replace H := H.kp [0, 2, 3, 4]
  refine H.rg 1 fun a H => ?_
  refine H.len gz rfl rfl rfl rfl Tryz.underlying31 fun a H => ?_
  refine H.ms 1 fun a H => ?_
  by_cases hnN : n < N
  · refine H.bb 0 rfl rfl rfl rfl rfl rfl (Q3 _ _ true (by rw [decide_eq_true_iff]; omega) _ _ _) rfl fun a H => nt (H.condT rfl (wp_goto ?_))
    repeat (first | (with_reducible refine block_goto ?_) | (with_reducible refine G9 ?_))
    exact N4 ⟨7, H.keep ⟨rfl, rfl, trivial⟩, O1, by unfold X1; rw [if_neg (by omega), if_neg hg2, if_pos (by omega)]⟩
  refine H.bb 0 rfl rfl rfl rfl rfl rfl (Q3 _ _ false (by rw [decide_eq_false_iff_not]; omega) _ _ _) rfl fun a H => nt (H.condF rfl (Z3 (Z0 ?_)))
  refine H.rg 1 fun a H => nt ?_
  replace H := H.kp [0, 2, 3, 4]
  refine H.rg 1 fun a H => ?_
  refine H.go gz rfl rfl _ (Z5b rfl (H.ev rfl) (H.ev rfl) (H.ev rfl) (N0 A n c 2 4 (by decide) (by omega) hnc _)) fun a H => ?_
  refine H.cq 1 (X0f xs n hl A c hnc w1 x1 2 2 (by omega) (by decide) L hL) fun a H => nt ?_
  replace H := H.kp [0, 2, 3, 4, 5]
  refine H.rg 2 fun a H => ?_
  by_cases hLN : L < N
  · refine H.bb 0 rfl rfl rfl rfl rfl rfl (Q3 _ _ true (by rw [decide_eq_true_iff]; omega) _ _ _) rfl fun a H => nt (H.condT rfl (wp_goto ?_))
    repeat (first | (with_reducible refine block_goto ?_) | (with_reducible refine G9 ?_))
    exact N4 ⟨1, H.keep ⟨rfl, rfl, trivial⟩, O1, by unfold X1; rw [if_neg (by omega), if_neg hg2, if_neg (by omega), if_pos (by omega)]⟩
  refine H.bb 0 rfl rfl rfl rfl rfl rfl (Q3 _ _ false (by rw [decide_eq_false_iff_not]; omega) _ _ _) rfl fun a H => nt (H.condF rfl (Z3 (Z0 ?_)))
  refine H.rg 1 fun a H => nt ?_
  replace H := H.kp [0, 2, 3, 4, 5]
  refine H.rg 1 fun a H => ?_
  refine H.len gz rfl rfl rfl rfl Tryz.underlying31 fun a H => ?_
  refine H.ms 1 fun a H => ?_
  by_cases hnL : n < L
  · refine H.bb 0 rfl rfl rfl rfl rfl rfl (Q3 _ _ true (by rw [decide_eq_true_iff]; omega) _ _ _) rfl fun a H => nt (H.condT rfl (wp_goto ?_))
    repeat (first | (with_reducible refine block_goto ?_) | (with_reducible refine G9 ?_))
    exact N4 ⟨7, H.keep ⟨rfl, rfl, trivial⟩, O1, by unfold X1; rw [if_neg (by omega), if_neg hg2, if_neg (by omega), if_neg (by omega), if_pos (by omega)]⟩
  refine H.bb 0 rfl rfl rfl rfl rfl rfl (Q3 _ _ false (by rw [decide_eq_false_iff_not]; omega) _ _ _) rfl fun a H => nt (H.condF rfl (Z3 (Z0 ?_)))
  refine H.rg 1 fun a H => nt ?_
  replace H := H.kp [0, 2, 3, 4, 5]
  refine H.rg 2 fun a H => ?_
  refine H.go gz rfl rfl _ (Z6l rfl (H.ev rfl) (H.ev rfl) (Z4t A n c N (by omega) hnc _)) fun a H => ?_
  refine H.cq 0 (hS ▸ J2y (xs.take N) N (by rw [List.length_take]; omega) A c w1 (x1.take N) (by omega)) fun a H => ?_
  obtain ⟨zs, hzs⟩ : ∃ z, ((S : Int) != 0) = z := ⟨_, rfl⟩
  refine H.bn 0 (Z1c _ _ zs hzs _ _ _) fun a H => nt ?_
  cases zs with
  | true =>
    refine H.condT rfl (wp_goto ?_)
    have h8 : S ≠ 0 := by intro e; rw [e] at hzs; cases hzs
    repeat (first | (with_reducible refine block_goto ?_) | (with_reducible refine G9 ?_))
    exact N4 ⟨8, H.keep ⟨rfl, rfl, trivial⟩, O1, by unfold X1; rw [if_neg (by omega), if_neg hg2, if_neg (by omega), if_neg (by omega), if_neg (by omega), hN, hS, if_pos h8]⟩
  | false =>
  have h8 : S = 0 := by simpa using hzs
  refine H.condF rfl (Z3 (Z0 ?_))
  refine H.rg 1 fun a H => nt ?_
  replace H := H.kp [0, 2, 3, 4, 5]
  have hFl : F < 65536 := hF ▸ X2y xs 6 2
  refine H.rg 1 fun a H => ?_
  refine H.go gz rfl rfl _ (Z5b rfl (H.ev rfl) (H.ev rfl) (H.ev rfl) (N0 A n c 6 8 (by decide) (by omega) hnc _)) fun a H => ?_
  refine H.cq 0 (X0f xs n hl A c hnc w1 x1 6 2 (by omega) (by decide) F hF) fun a H => ?_
  refine H.bn 0 (Q1z F hFl _ _ _) fun a H => ?_
  obtain ⟨zf, hzf⟩ : ∃ z, (((F % 16384 : Nat) : Int) != 0) = z := ⟨_, rfl⟩
  refine H.bn 0 (Z1c _ _ zf hzf _ _ _) fun a H => nt ?_
  have hrest : X1 xs = if F % 16384 ≠ 0 then (.zero, 9) else (Z8n xs, 0) := by unfold X1; rw [if_neg (by omega), if_neg hg2, if_neg (by omega), if_neg (by omega), if_neg (by omega), hN, hS, if_neg (by omega), hF]
  cases zf with
  | true =>
    refine H.condT rfl (wp_goto ?_)
    have h9 : F % 16384 ≠ 0 := by intro e; rw [e] at hzf; cases hzf
    repeat (first | (with_reducible refine block_goto ?_) | (with_reducible refine G9 ?_))
    exact N4 ⟨9, H.keep ⟨rfl, rfl, trivial⟩, O1, by rw [hrest, if_pos h9]⟩
  | false =>
  rw [if_neg (by have : ((F % 16384 : Nat) : Int) = 0 := by simpa using hzf
                 omega)] at hrest
  refine H.condF rfl (Z3 (Z0 ?_))
  replace H := H.kp [0, 2, 4, 5]
  have hrb : ∀ {bs : List (Nat × List Value)} {w'}, X0 w g bs w' → RB w' w'.heap.size (some ⟨b, o, none⟩) xs := fun h => hA ▸ hx.next (bl h)
  have hcl : ((xs.take L).drop N).length = L - N := by rw [List.length_drop, List.length_take]; omega
  refine H.sg (fun w' => X0 w g [(g, pz6)] w') O1.drew [0, 2, 4, 5] [ec 0 48 (.slice A n c), ec 1 49 (.slice (if c = 12 then A else A.map (·.add 12)) 4 (c - 12)), ec 2 50 (iz (V4 xs 12 4)), ec 3 51 (.slice A n c), ec 4 52 (.slice (if c = 16 then A else A.map (·.add 16)) 4 (c - 16)), ec 5 53 (iz (V4 xs 16 4)), ec 6 54 (.slice A n c), ec 7 55 (.pointer (some ⟨b, o + 9, none⟩)), ec 8 56 (.int .u8 ((b8 xs 9 : Nat) : Int)), ec 9 57 (iz (b8 xs 9)), ec 10 58 (.slice A n c), ec 11 59 (.pointer (some ⟨b, o + 8, none⟩)), ec 12 60 (.int .u8 ((b8 xs 8 : Nat) : Int)), ec 13 61 (iz (b8 xs 8)), ec 14 62 (.slice A n c), ec 15 63 (.slice (if c = 4 then A else A.map (·.add 4)) 2 (c - 4)), ec 16 64 (iz (V4 xs 4 2)), ec 17 65 (.slice A n c), ec 18 66 (iz N), ec 19 67 (iz L), ec 20 68 (.slice (if c = N then A else A.map (·.add N)) (L - N) (c - N)), ec 24 3 (iz 0)] rfl ?_
  refine St.call 21 ⟨jm, js2 fun _ => N0 A n c 12 16 (by omega) (by omega) hnc _, jq fun w' h => X0f xs n hl A c hnc w' (hx.next (bl h)) 12 4 (by omega) (by decide) _ rfl, jm, js2 fun _ => N0 A n c 16 20 (by omega) (by omega) hnc _, jq fun w' h => X0f xs n hl A c hnc w' (hx.next (bl h)) 16 4 (by omega) (by decide) _ rfl, jm, jI rfl rfl rfl rfl rfl rfl (hix 9 (by omega)), jl fun _ h => U3 _ _ _ _ ((hrb h).b8 (k := 9) (by omega)), jc fun _ => Z0l (b8 xs 9) (Z1w xs 9) _, jm, jI rfl rfl rfl rfl rfl rfl (hix 8 (by omega)), jl fun _ h => U3 _ _ _ _ ((hrb h).b8 (k := 8) (by omega)), jc fun _ => Z0l (b8 xs 8) (Z1w xs 8) _, jm, js2 fun _ => N0 A n c 4 6 (by omega) (by omega) hnc _, jq fun w' h => X0f xs n hl A c hnc w' (hx.next (bl h)) 4 2 (by omega) (by decide) _ rfl, jm, jm, jm, js2 fun _ => N0 A n c N L (by omega) (by omega) hnc _, jm, trivial⟩ (fun wy h => X5t ((xs.take L).drop N) (L - N) hcl _ (c - N) wy (((hx.next (bl h)).take L).cut (k := N) (cap := c) (by rw [List.length_take]; omega) (by rw [List.length_take]; omega)) (by omega)) ?_
  rintro wy _ wz hh ⟨A1, c1, rfl, hO, hb⟩
  have hgy : g < wy.heap.size := hh.lt 0 rfl
  have Oz := hh.call hb
  clear hb
  generalize wy.heap.size = bb at hO hgy
  refine nx (fun w' => X0 w g [(g, pz6)] w' ∧ w'.ownsRow bb 5 1 (.slice A1 (L - N) c1) (L - N) (((xs.take L).drop N).map bv)) [ec 22 70 (.agg ([iz (V4 xs 12 4), iz (V4 xs 16 4), iz (b8 xs 9), iz (b8 xs 8), iz (V4 xs 4 2), .slice A1 (L - N) c1] : List Value).toArray)] [] ⟨Oz, hO⟩ ?_
  refine St.sto 23 ⟨ja (fun _ => by kernel_rfl), jm, jI rfl rfl rfl rfl rfl rfl (hix 9 (by omega)), jl fun _ h => U3 _ _ _ _ ((hrb h.1).b8 (k := 9) (by omega)), jc fun _ => Z0l (b8 xs 9) (Z1w xs 9) _, jm, jI rfl rfl rfl rfl rfl rfl (hix 8 (by omega)), jl fun _ h => U3 _ _ _ _ ((hrb h.1).b8 (k := 8) (by omega)), jc fun _ => Z0l (b8 xs 8) (Z1w xs 8) _, jm, trivial⟩ ?_
  rintro a wu H _ ⟨Ou, hOu⟩
  obtain ⟨w', hr, hg3, hs3, hC3⟩ := (Ou.get 0 rfl).sto (L := [iz (V4 xs 12 4), iz (V4 xs 16 4), iz (b8 xs 9), iz (b8 xs 8), iz (V4 xs 4 2), .slice A1 (L - N) c1]) S9 rfl rfl rfl
  refine ⟨w', Q6 rfl (H.ev rfl) (H.ev rfl) hr, nx0 (fun w' => X0 w g [(g, [iz (V4 xs 12 4), iz (V4 xs 16 4), iz (b8 xs 9), iz (b8 xs 8), iz (V4 xs 4 2), .slice A1 (L - N) c1])] w' ∧ w'.ownsRow bb 5 1 (.slice A1 (L - N) c1) (L - N) (((xs.take L).drop N).map bv)) [] [] ⟨Ou.store 0 rfl hg3 hs3 hC3, hOu.kept hg3 (.inr (Q1 hOu (.inl hgy)).symm)⟩ (St.fin ⟨jm, trivial⟩ ?_ (hF := .inl rfl))⟩
  rintro a w3 H _ ⟨O3, hO3⟩
  refine Z0 (wp_ret ?_)
  repeat (first | (with_reducible refine Z2d ?_) | (with_reducible refine Z4 ?_) | (with_reducible refine Z5 ?_))
  refine bodyPost_ret (U0 Tryz.results86 _ _ _ (H.at_ 2 _ rfl) (H.at_ 3 _ rfl) (O3.get 0 rfl) Tryz.underlying89 rfl _ S9 rfl) H.df ?_
  rw [hrest]
  unfold Z8n
  rw [hN, hL]
  refine ⟨A1, c1, ?_, ?_, bl O3⟩
  · simp only [hcl]
  · simp only [hcl]; exact V2 hO3 (by omega)
end
section
open Go.RowKit
abbrev sz7:List Value:=[iz 0,iz 0,iz 0,iz 0,iz 0,iz 0,Z2]
theorem Z0j:(Tryz.prog.info? 36).map (·.size)=some 7:=by kernel_rfl
theorem X2z (w:World):(zeroValue 36).run Tryz.prog w = .ok (.agg sz7.toArray) w:=by kernel_rfl
theorem X8r (v:Nat) (h:v<256) (x y:Operand) (w:World):(do eqGuard .and 3 x y (iz v) (iz 63);binOp .and 3 (iz v) (iz 63):Sem Value).run Tryz.prog w = .ok (iz ((v%64:Nat):Int)) w:=by
 have g:∀(u v:Int) (w:World),(do eqGuard .and 3 x y (iz u) (iz v);binOp .and 3 (iz u) (iz v):Sem Value).run Tryz.prog w = .ok (iz (bits .and .i64 u v)) w:=fun _ _ _=>by kernel_rfl
 have e:bits .and .i64 (v:Int) 63=((v%64:Nat):Int):=by
  have:=Z1d v 63 (by omega) (by omega);rw[show (63:Nat)=2^6-1 from rfl,Nat.and_two_pow_sub_one_eq_mod] at this;exact this
 rw[←e];exact g _ _ _
theorem J0u (src dst:Int) (xs:List UInt8) (n:Nat) (hl:xs.length=n) (A:Option Addr) (c:Nat) (hnc:n≤c) (w:World) (hx:RB w w.heap.size A xs) (hn:n≤140737488351232):
  Calls Tryz.prog 87 #[iz src,iz dst, .slice A n c] w (Y2g w (G7 src dst xs)):=by
 go_enter Tryz.func87,Tryz.ntmps87
 refine Z9.start 67 [(0,iz src),(1,iz dst),(2, .slice A n c)] rfl rfl ⟨rfl,rfl,rfl,trivial⟩ ?_;intro a0 H0;refine rl ?_;refine H0.al (X0.start w) 1 X2z fun a w1 O1 H=>nt ?_;obtain⟨g,hg⟩:∃g,w.heap.size=g:=⟨_,rfl⟩;rw[hg] at O1 H;have bl:∀{bs:List (Nat×List Value)}{w'},X0 w g bs w'→Below w.heap.size w w':=fun h=>hg▸h.bel;refine Z3e (k:=0) rfl (fun a w'=>∃er:Int,Z9 a 67 [(6,pz g),(7,iz er)]∧X0 w g [(g,sz7)] w'∧G7 src dst xs=(.zero,er)) (fun _ _=>0) ?_ ?_
 rotate_left
 ·clear H H0 O1
  rintro a w3 ⟨er,H,O3,he⟩;refine rl ?_;refine H.any (w':=w3) gz rfl rfl (.agg sz7.toArray) (by intro cs b h;cases h) (by kernel_rfl) (by kernel_rfl) fun a H=>?_;refine H.ms 1 fun a H=>?_;refine H.st O3 0 1 (L:=sz7) (fun a w4 O4 H=>nt (wp_ret ?_)) Z0j;repeat (first |(with_reducible refine Z2d ?_) |(with_reducible refine Z5 ?_))
  refine bodyPost_ret (U0 Tryz.results87 _ _ _ (H.at_ 6 _ rfl) (H.at_ 7 _ rfl) (O4.get 0 rfl) Tryz.underlying36 rfl _ Z0j rfl) H.df ?_;rw[he];exact⟨none,0,rfl,World.ownsRow_nil _ _ _ _,bl O4⟩
 intro hpass;obtain⟨N,hN⟩:∃N,sgN xs=N:=⟨_,rfl⟩;have hN60:N≤60:=by have:=Z1w xs 12;rw[←hN];unfold sgN;omega
 have x1:=hx.next (bl O1);refine H.rg 1 fun a H=>nt ?_;refine H.rg 1 fun a H=>nt ?_;replace H:=H.kp [0,1,2,6,7];obtain⟨b1,h1⟩:∃b,Z5i src=b:=⟨_,rfl⟩;obtain⟨b2,h2⟩:∃b,Z5i dst=b:=⟨_,rfl⟩;refine H.rg 1 fun a H=>?_;refine H.cq 0 (J3g src b1 h1 w1) fun a H=>?_;refine H.un gz rfl rfl rfl rfl (G5 b1 _) fun a H=>?_;refine H.ms 1 fun a H=>?_;cases b1 with
 |false=>
  refine H.offs 3 rfl fun a H=>?_;refine H.pick gz rfl rfl rfl rfl rfl fun a H=>nt (H.condT rfl (wp_goto ?_));repeat (first |(with_reducible refine block_goto ?_) |(with_reducible refine G9 ?_))
  exact N4 ⟨1,H.keep ⟨rfl,rfl,trivial⟩,O1,by unfold G7;rw[if_pos (.inl h1)]⟩
 |true=>
 refine H.go (H.wt rfl rfl rfl) rfl rfl _ (N2 (.inl rfl) (H.ev rfl)) fun a H=>?_;refine H.call (H.wt rfl rfl rfl) rfl rfl rfl rfl (fun _ _=>by kernel_rfl) (Z6t (J3g dst b2 h2 w1)) ?_;rintro a _ _ ⟨rfl,rfl⟩ H;refine H.un (H.wt rfl rfl rfl) rfl rfl rfl rfl (G5 b2 _) fun a H=>?_;refine H.pick gz rfl rfl rfl rfl rfl fun a H=>nt ?_;cases b2 with
 |false=>
  refine H.condT rfl (wp_goto ?_);repeat (first |(with_reducible refine block_goto ?_) |(with_reducible refine G9 ?_))
  exact N4 ⟨1,H.keep ⟨rfl,rfl,trivial⟩,O1,by unfold G7;rw[if_pos (.inr h2)]⟩
 |true=>
 refine H.condF rfl (Z3 (Z0 ?_));obtain⟨src,rfl⟩:=Int.eq_ofNat_of_zero_le (T5.1 h1).1;obtain⟨dst,rfl⟩:=Int.eq_ofNat_of_zero_le (T5.1 h2).1;have hs:=(T5.1 h1).2;have hd:=(T5.1 h2).2;have h12:¬(Z5i (src:Int)=false∨Z5i (dst:Int)=false):=by rw[h1,h2];simp
 refine H.rg 1 fun a H=>nt ?_;replace H:=H.kp [0,1,2,6,7];refine H.rg 1 fun a H=>?_;refine H.len gz rfl rfl rfl rfl Tryz.underlying31 fun a H=>?_;by_cases h20:n<20
 ·refine H.bb 0 rfl rfl rfl rfl rfl rfl (Q3 _ _ true (by rw[decide_eq_true_iff];omega) _ _ _) rfl fun a H=>nt (H.condT rfl (wp_goto ?_))
  repeat (first |(with_reducible refine block_goto ?_) |(with_reducible refine G9 ?_))
  exact N4 ⟨7,H.keep ⟨rfl,rfl,trivial⟩,O1,by unfold G7;rw[if_neg h12,if_pos (by omega)]⟩
 refine H.bb 0 rfl rfl rfl rfl rfl rfl (Q3 _ _ false (by rw[decide_eq_false_iff_not];omega) _ _ _) rfl fun a H=>nt (H.condF rfl (Z3 (Z0 ?_)));refine H.rg 1 fun a H=>nt ?_;replace H:=H.kp [0,1,2,6,7];obtain⟨b,o,_,hA,hbB,_,_⟩:=x1.get (k:=0) (by omega);have hrb:∀{bs:List (Nat×List Value)}{w'},X0 w g bs w'→RB w' w'.heap.size (some ⟨b,o,none⟩) xs:=fun h=>hA▸hx.next (bl h);have hix:∀k,k<n→∀w',(Instr.indexAt 31 (.slice A n c) (iz k)).run Tryz.prog w' = .ok (.pointer (some ⟨b,o+k,none⟩)) w':=fun k hk w'=>by rw[hA];exact U7 31 Tryz.underlying31 (fun _=>by kernel_rfl) b o n c k hk w'
 have hb0:=Z1w xs 12;refine H.rg 1 fun a H=>?_;refine H.index gz rfl rfl rfl rfl rfl (hix 12 (by omega) _) fun a H=>?_;refine H.ld 0 (U3 _ _ _ _ ((hrb O1).b8 (k:=12) (by omega))) fun a H=>?_;refine H.bn 0 (X0d (b8 xs 12) hb0 _ _ _) fun a H=>?_;refine H.cv 0 (Z0l (b8 xs 12/16) (by omega) _) fun a H=>?_;refine H.bn 1 (X0e (b8 xs 12/16) (by omega) _ _ _) fun a H=>nt ?_;rw[show 4*(b8 xs 12/16)=N from hN] at H;replace H:=H.kp [0,1,2,6,7,8];refine H.rg 1 fun a H=>?_;by_cases hN20:N<20
 ·refine H.bb 0 rfl rfl rfl rfl rfl rfl (Q3 _ _ true (by rw[decide_eq_true_iff];omega) _ _ _) rfl fun a H=>nt (H.condT rfl (wp_goto ?_))
  repeat (first |(with_reducible refine block_goto ?_) |(with_reducible refine G9 ?_))
  exact N4 ⟨1,H.keep ⟨rfl,rfl,trivial⟩,O1,by unfold G7;rw[if_neg h12,if_neg (by omega),if_pos (by omega)]⟩
 refine H.bb 0 rfl rfl rfl rfl rfl rfl (Q3 _ _ false (by rw[decide_eq_false_iff_not];omega) _ _ _) rfl fun a H=>nt (H.condF rfl (Z3 (Z0 ?_)));refine H.rg 1 fun a H=>nt ?_;replace H:=H.kp [0,1,2,6,7,8];refine H.rg 1 fun a H=>?_;refine H.len gz rfl rfl rfl rfl Tryz.underlying31 fun a H=>?_;refine H.ms 1 fun a H=>?_;by_cases hnN:n<N
 ·refine H.bb 0 rfl rfl rfl rfl rfl rfl (Q3 _ _ true (by rw[decide_eq_true_iff];omega) _ _ _) rfl fun a H=>nt (H.condT rfl (wp_goto ?_))
  repeat (first |(with_reducible refine block_goto ?_) |(with_reducible refine G9 ?_))
  exact N4 ⟨7,H.keep ⟨rfl,rfl,trivial⟩,O1,by unfold G7;rw[if_neg h12,if_neg (by omega),if_neg (by omega),if_pos (by omega)]⟩
 refine H.bb 0 rfl rfl rfl rfl rfl rfl (Q3 _ _ false (by rw[decide_eq_false_iff_not];omega) _ _ _) rfl fun a H=>nt (H.condF rfl (Z3 (Z0 ?_)));refine H.rg 1 fun a H=>nt ?_;replace H:=H.kp [0,1,2,6,7,8];refine H.rg 1 fun a H=>?_;refine H.len gz rfl rfl rfl rfl Tryz.underlying31 fun a H=>?_;by_cases hbig:1480<n
 ·refine H.bb 0 rfl rfl rfl rfl rfl rfl (S0 _ _ true (by rw[decide_eq_true_iff];omega) _ _ _) rfl fun a H=>nt (H.condT rfl (wp_goto ?_))
  repeat (first |(with_reducible refine block_goto ?_) |(with_reducible refine G9 ?_))
  exact N4 ⟨2,H.keep ⟨rfl,rfl,trivial⟩,O1,by unfold G7;rw[if_neg h12,if_neg (by omega),if_neg (by omega),if_neg (by omega),if_pos (by omega)]⟩
 refine H.bb 0 rfl rfl rfl rfl rfl rfl (S0 _ _ false (by rw[decide_eq_false_iff_not];omega) _ _ _) rfl fun a H=>nt (H.condF rfl (Z3 (Z0 ?_)));refine H.rg 1 fun a H=>nt ?_;replace H:=H.kp [0,1,2,6,7,8];obtain⟨S,hS⟩:∃S,Z1x src dst xs=S:=⟨_,rfl⟩;refine H.rg 3 fun a H=>?_;refine H.cl (Z1f (hS▸J3f src dst (by omega) (by omega) xs n hl A c w1 x1 (by omega))) ?_;rintro a _ w2 ⟨rfl,hb2⟩ H;have O2:=O1.call hb2;have hrest:G7 src dst xs=if S≠0 then (.zero,8) else (Z5h xs,0):=by unfold G7;rw[if_neg h12,if_neg (by omega),if_neg (by omega),if_neg (by omega),if_neg (by omega),Int.toNat_natCast,Int.toNat_natCast,hS]
 obtain⟨zs,hzs⟩:∃z,((S:Int) != 0)=z:=⟨_,rfl⟩;refine H.bn 0 (Z1c _ _ zs hzs _ _ _) fun a H=>nt ?_;cases zs with
 |true=>
  refine H.condT rfl (wp_goto ?_);have h8:S≠0:=by intro e;rw[e] at hzs;cases hzs
  repeat (first |(with_reducible refine block_goto ?_) |(with_reducible refine G9 ?_))
  exact N4 ⟨8,H.keep ⟨rfl,rfl,trivial⟩,O2,by rw[hrest,if_pos h8]⟩
 |false=>
 rw[if_neg (by simpa using hzs)] at hrest;refine H.condF rfl (Z3 (Z0 ?_));replace H:=H.kp [2,6,8];have hcl:(xs.drop N).length=n-N:=by rw[List.length_drop];omega
 refine H.sg (fun w'=>X0 w g [(g,sz7)] w') O2.drew [2,6,8] [ec 0 40 (.slice A n c),ec 1 41 (.slice A 2 c),ec 2 42 (iz (V4 xs 0 2)),ec 3 43 (.slice A n c),ec 4 44 (.slice (if c=2 then A else A.map (·.add 2)) 2 (c-2)),ec 5 45 (iz (V4 xs 2 2)),ec 6 46 (.slice A n c),ec 7 47 (.slice (if c=4 then A else A.map (·.add 4)) 4 (c-4)),ec 8 48 (iz (V4 xs 4 4)),ec 9 49 (.slice A n c),ec 10 50 (.slice (if c=8 then A else A.map (·.add 8)) 4 (c-8)),ec 11 51 (iz (V4 xs 8 4)),ec 12 52 (.slice A n c),ec 13 53 (.pointer (some ⟨b,o+13,none⟩)),ec 14 54 (.int .u8 ((b8 xs 13:Nat):Int)),ec 15 55 (iz (b8 xs 13)),ec 16 56 (iz ((b8 xs 13%64:Nat):Int)),ec 17 57 (.slice A n c),ec 18 58 (.slice (if c=14 then A else A.map (·.add 14)) 2 (c-14)),ec 19 59 (iz (V4 xs 14 2)),ec 20 60 (.slice A n c),ec 21 61 (iz N),ec 22 62 (.slice (if c=N then A else A.map (·.add N)) (n-N) (c-N)),ec 26 7 (iz 0)] rfl ?_;refine St.call 23 ⟨jm,jh fun _=>Z4t A n c 2 (by omega) hnc _,jq fun w' h=>J2z (xs.take 2) 2 (by rw[List.length_take];omega) A c w' ((hx.next (bl h)).take 2) (by decide),jm,js2 fun _=>N0 A n c 2 4 (by omega) (by omega) hnc _,jq fun w' h=>X0f xs n hl A c hnc w' (hx.next (bl h)) 2 2 (by omega) (by decide) _ rfl,jm,js2 fun _=>N0 A n c 4 8 (by omega) (by omega) hnc _,jq fun w' h=>X0f xs n hl A c hnc w' (hx.next (bl h)) 4 4 (by omega) (by decide) _ rfl,jm,js2 fun _=>N0 A n c 8 12 (by omega) (by omega) hnc _,jq fun w' h=>X0f xs n hl A c hnc w' (hx.next (bl h)) 8 4 (by omega) (by decide) _ rfl,jm,jI rfl rfl rfl rfl rfl rfl (hix 13 (by omega)),jl fun _ h=>U3 _ _ _ _ ((hrb h).b8 (k:=13) (by omega)),jc fun _=>Z0l (b8 xs 13) (Z1w xs 13) _,jb fun _=>X8r (b8 xs 13) (Z1w xs 13) _ _ _,jm,js2 fun _=>N0 A n c 14 16 (by omega) (by omega) hnc _,jq fun w' h=>X0f xs n hl A c hnc w' (hx.next (bl h)) 14 2 (by omega) (by decide) _ rfl,jm,jm,js1 fun _=>Z7d A n c N (by omega) hnc _,jm,trivial⟩ (fun wy h=>X5t (xs.drop N) (n-N) hcl _ (c-N) wy ((hx.next (bl h)).cut (k:=N) (cap:=c) (by omega) (by omega)) (by omega)) ?_;rintro wy _ wz hh ⟨A1,c1,rfl,hO,hb⟩;have hgy:g<wy.heap.size:=hh.lt 0 rfl;have Oz:=hh.call hb;clear hb;generalize wy.heap.size=bb at hO hgy;refine nx (fun w'=>X0 w g [(g,sz7)] w'∧w'.ownsRow bb 5 1 (.slice A1 (n-N) c1) (n-N) ((xs.drop N).map bv)) [ec 24 64 (.agg ([iz (V4 xs 0 2),iz (V4 xs 2 2),iz (V4 xs 4 4),iz (V4 xs 8 4),iz ((b8 xs 13%64:Nat):Int),iz (V4 xs 14 2), .slice A1 (n-N) c1]:List Value).toArray)] [] ⟨Oz,hO⟩ ?_;refine St.sto 25 ⟨ja (fun _=>by kernel_rfl),jm,jI rfl rfl rfl rfl rfl rfl (hix 13 (by omega)),jl fun _ h=>U3 _ _ _ _ ((hrb h.1).b8 (k:=13) (by omega)),jc fun _=>Z0l (b8 xs 13) (Z1w xs 13) _,jb fun _=>X8r (b8 xs 13) (Z1w xs 13) _ _ _,jm,trivial⟩ ?_;rintro a wu H _ ⟨Ou,hOu⟩;obtain⟨w',hr,hg3,hs3,hC3⟩:=(Ou.get 0 rfl).sto (L:=[iz (V4 xs 0 2),iz (V4 xs 2 2),iz (V4 xs 4 4),iz (V4 xs 8 4),iz ((b8 xs 13%64:Nat):Int),iz (V4 xs 14 2), .slice A1 (n-N) c1]) Z0j rfl rfl rfl;refine⟨w',Q6 rfl (H.ev rfl) (H.ev rfl) hr,nx0 (fun w'=>X0 w g [(g,[iz (V4 xs 0 2),iz (V4 xs 2 2),iz (V4 xs 4 4),iz (V4 xs 8 4),iz ((b8 xs 13%64:Nat):Int),iz (V4 xs 14 2), .slice A1 (n-N) c1])] w'∧w'.ownsRow bb 5 1 (.slice A1 (n-N) c1) (n-N) ((xs.drop N).map bv)) [] [] ⟨Ou.store 0 rfl hg3 hs3 hC3,hOu.kept hg3 (.inr (Q1 hOu (.inl hgy)).symm)⟩ (St.fin ⟨jm,trivial⟩ ?_ (hF:=.inl rfl))⟩;rintro a w3 H _ ⟨O3,hO3⟩;refine Z0 (wp_ret ?_);repeat (first |(with_reducible refine Z2d ?_) |(with_reducible refine Z4 ?_) |(with_reducible refine Z5 ?_))
 refine bodyPost_ret (U0 Tryz.results87 _ _ _ (H.at_ 6 _ rfl) (H.at_ 7 _ rfl) (O3.get 0 rfl) Tryz.underlying36 rfl _ Z0j rfl) H.df ?_;rw[hrest];unfold Z5h;rw[hN];refine⟨A1,c1, ?_, ?_,bl O3⟩
 ·simp only[hcl]
 ·simp only[hcl];exact V2 hO3 (by omega)
end
section
open Go.RowKit
def Z9f (b:List UInt8):Option (Pk×Sg):=
 if (E6 b).2≠0∨(E6 b).1.t≠2048 then none
 else if (X1 (E6 b).1.xs).2≠0∨(X1 (E6 b).1.xs).1.p≠6 then none
 else if (G7 (X1 (E6 b).1.xs).1.s (X1 (E6 b).1.xs).1.d (X1 (E6 b).1.xs).1.xs).2≠0 then none
 else some ((X1 (E6 b).1.xs).1,(G7 (X1 (E6 b).1.xs).1.s (X1 (E6 b).1.xs).1.d (X1 (E6 b).1.xs).1.xs).1)
abbrev pkL (p:Pk) (v:Value):List Value:=[iz p.s,iz p.d,iz p.p,iz p.t,iz p.i,v]
abbrev sgL (q:Sg) (v:Value):List Value:=[iz q.sp,iz q.dp,iz q.sq,iz q.ak,iz q.fl,iz q.wn,v]
def J4w (W:World):Option (Pk×Sg)→Value→World→Prop
 |none,v,w=>v = .tuple #[.agg (pkL .zero Z2).toArray, .agg (sgL .zero Z2).toArray, .bool false]∧Below W.heap.size W w
 |some (p,q),v,w=>∃A0 n0 c0 A c,v = .tuple #[.agg (pkL p (.slice A0 n0 c0)).toArray, .agg (sgL q (.slice A q.xs.length c)).toArray, .bool true]∧w.ownsRow W.heap.size 5 1 (.slice A q.xs.length c) q.xs.length (q.xs.map bv)∧Below W.heap.size W w
theorem Z2w:(Tryz.prog.info? 89).map (·.size)=some 6:=by kernel_rfl
theorem Y2q (w:World):(zeroValue 89).run Tryz.prog w = .ok (.agg (pkL .zero Z2).toArray) w:=by kernel_rfl
theorem Z1s:(Tryz.prog.info? 36).map (·.size)=some 7:=by kernel_rfl
theorem Y8k (w:World):(zeroValue 36).run Tryz.prog w = .ok (.agg (sgL .zero Z2).toArray) w:=by kernel_rfl
theorem J4x (xs:List UInt8):(X1 xs).1.xs.length≤xs.length:=by
 unfold X1;repeat' split
 all_goals first |(simp[Pk.zero];done) |skip
 simp[Z8n];omega
theorem Y8l (u v:Int) (b:Bool) (h:(u != v)=b) (x y:Operand) (w:World):(do eqGuard .neq 27 x y (iz u) (iz v);binOp .neq 27 (iz u) (iz v):Sem Value).run Tryz.prog w = .ok (.bool b) w:=by
 subst h;simp[go_sem]
theorem J4y (xs:List UInt8) (A:Option Addr) (c:Nat) (hnc:xs.length≤c) (w:World) (hx:RB w w.heap.size A xs) (hn:xs.length≤140737488351232):
  Calls Tryz.prog 86 #[.slice A xs.length c] w fun e w'=>∃v,e = .returned v∧∃A' c',v = .tuple #[.agg (pkL (X1 xs).1 (.slice A' (X1 xs).1.xs.length c')).toArray,iz (X1 xs).2]∧w'.ownsRow w.heap.size 5 1 (.slice A' (X1 xs).1.xs.length c') (X1 xs).1.xs.length ((X1 xs).1.xs.map bv)∧Below w.heap.size w w':=
 (J4v xs xs.length rfl A c hnc w hx hn).mono fun _ _ ⟨A',c',h1,h2,h3⟩=>⟨_,h1,A',c',rfl,h2,h3⟩
theorem J0v (src dst:Int) (xs:List UInt8) (A:Option Addr) (c:Nat) (hnc:xs.length≤c) (w:World) (hx:RB w w.heap.size A xs) (hn:xs.length≤140737488351232):
  Calls Tryz.prog 87 #[iz src,iz dst, .slice A xs.length c] w fun e w'=>∃v,e = .returned v∧∃A' c',v = .tuple #[.agg (sgL (G7 src dst xs).1 (.slice A' (G7 src dst xs).1.xs.length c')).toArray,iz (G7 src dst xs).2]∧w'.ownsRow w.heap.size 5 1 (.slice A' (G7 src dst xs).1.xs.length c') (G7 src dst xs).1.xs.length ((G7 src dst xs).1.xs.map bv)∧Below w.heap.size w w':=
 (J0u src dst xs xs.length rfl A c hnc w hx hn).mono fun _ _ ⟨A',c',h1,h2,h3⟩=>⟨_,h1,A',c',rfl,h2,h3⟩
theorem Y3q {P:Program}{fn:Func}{p q r:Tmp}{T U:TypeId}(h:fn.results = #[.cell p T, .cell q U, .tmp r]) (tmps:Array Value) {u v z:Value}{x y:Addr}{w:World}(hp:tmps.getD p undef = .pointer (some x)) (hq:tmps.getD q undef = .pointer (some y)) (hr:tmps.getD r undef=z) (h1:(loadVar T x).run P w = .ok u w) (h2:(loadVar U y).run P w = .ok v w):(results fn tmps).run P w = .ok (.tuple #[u,v,z]) w:=by
 have hp':tmps[p]?.getD undef = .pointer (some x):=by simpa using hp
 have hq':tmps[q]?.getD undef = .pointer (some y):=by simpa using hq
 have hr':tmps[r]?.getD undef=z:=by simpa using hr
 simp[results,h,hp',hq',hr',asAddr,h1,h2]
theorem X3a {w:World}{g:Nat}{L:List Value}(hC:X5 w g L) (hl:L.length=6):(loadVar 89 ⟨g,0,none⟩).run Tryz.prog w = .ok (.agg L.toArray) w:=
 run_loadVar_mid w g 0 _ L _ hC.range Tryz.underlying89 rfl (by rw[hl];exact Z2w)
theorem X3b {w:World}{g:Nat}{L:List Value}(hC:X5 w g L) (hl:L.length=7):(loadVar 36 ⟨g,0,none⟩).run Tryz.prog w = .ok (.agg L.toArray) w:=
 run_loadVar_mid w g 0 _ L _ hC.range Tryz.underlying36 rfl (by rw[hl];exact Z1s)
theorem X0g (xs:List UInt8) (A:Option Addr) (c:Nat) (hnc:xs.length≤c) (w:World) (hx:RB w w.heap.size A xs) (hl:xs.length≤140737488351232):
  Calls Tryz.prog 51 #[.slice A xs.length c] w fun e w'=>∃v,e = .returned v∧J4w w (Z9f xs) v w':=by
 go_enter Tryz.func51,Tryz.ntmps51
 refine Z9.start 48 [(0, .slice A xs.length c)] rfl rfl ⟨rfl,trivial⟩ ?_;intro a0 H0;have O0:=X0.start w;refine rl ?_;refine H0.al O0 0 Y2q fun a w1 O1 H=>?_;generalize hg2:w.heap.size=g2 at O1 H;refine H.al O1 1 Y8k fun a w2 O2 H=>nt ?_;generalize w1.heap.size=g3 at O2 H;have bl:∀{bs:List (Nat×List Value)}{w'},X0 w g2 bs w'→Below w.heap.size w w':=fun h=>hg2▸h.bel;replace H:=H.kp [0,2,3];obtain⟨ans,hans⟩:∃ans,Z9f xs=ans:=⟨_,rfl⟩;refine Z3e (k:=0) rfl (fun a w'=>ans=none∧Z9 a 48 [(2,pz g2),(3,pz g3)]∧∃L3 L2,L3.length=7∧L2.length=6∧X0 w g2 [(g3,L3),(g2,L2)] w') (fun _ _=>0) ?_ ?_
 rotate_left
 ·clear H H0
  rintro a w3 ⟨rfl,H,L3,L2,hl3,hl2,O3⟩;refine rl ?_;refine H.any (w':=w3) gz rfl rfl (.agg (pkL .zero Z2).toArray) (by intro cs b h;cases h) (by kernel_rfl) (by kernel_rfl) fun a H=>?_;refine H.any (w':=w3) gz rfl rfl (.agg (sgL .zero Z2).toArray) (by intro cs b h;cases h) (by kernel_rfl) (by kernel_rfl) fun a H=>?_;refine H.st O3 1 0 (L:=pkL .zero Z2) (L0:=L2) (fun a w4 O4 H=>?_) Z2w (h0:=hl2);refine H.st O4 0 1 (L:=sgL .zero Z2) (L0:=L3) (fun a w5 O5 H=>nt (wp_ret ?_)) Z1s (h0:=hl3);repeat (first |(with_reducible refine Z2d ?_) |(with_reducible refine Z5 ?_))
  exact bodyPost_ret (Y3q rfl _ (H.at_ 2 _ rfl) (H.at_ 3 _ rfl) (H.at_ 4 _ rfl) (X3a (O5.get 1 rfl) rfl) (X3b (O5.get 0 rfl) rfl)) H.df ⟨_,rfl,by rw[hans];exact⟨rfl,bl O5⟩⟩
 intro hpass;refine H.rg 1 fun a H=>?_;refine H.cl (J4f xs xs.length rfl A c hnc w2 (hx.next (bl O2)) hl) ?_;have hfl:=Y7s xs;have hans0:=hans;unfold Z9f at hans;generalize E6 xs=fo at hans hfl;obtain⟨fr,fe⟩:=fo;replace hfl:fr.xs.length≤xs.length:=hfl;rintro a _ w3 ⟨A1,c1,rfl,hO1,hb3⟩ H;have O3:=O2.call hb3;have hc1:=Z4s hO1;refine H.ms 1 fun a H=>?_;refine H.ex (r:=.agg ([iz fr.d,iz fr.s,iz fr.t, .slice A1 fr.xs.length c1]:List Value).toArray) 0 fun a H=>?_;refine H.ex (r:=iz fe) 0 fun a H=>?_;refine H.nk O3 1 (L:=[iz fr.d,iz fr.s,iz fr.t, .slice A1 fr.xs.length c1]) rfl Y5s Z2q fun a w4 hb4 O4 _ H=>nt ?_;have hO4:=Y1 hO1 hb4;have hg3:g3<w2.heap.size:=O2.lt 0 rfl;have hg23:g2<w2.heap.size:=O2.lt 1 rfl;generalize w3.heap.size=g5 at O4 H;replace H:=H.kp [2,3,5,6];have drop1:∀{x:Nat×List Value}{bs:List (Nat×List Value)}{w'},X0 w g2 (x::bs) w'→X0 w g2 bs w':=fun h=>h.sub (List.sublist_cons_self _ _);by_cases he:fe=0
 rotate_left
 ·have hn:ans=none:=by rw[←hans,if_pos (.inl he)]
  refine H.tb (X0 w g2 [(g5,[iz fr.d,iz fr.s,iz fr.t, .slice A1 fr.xs.length c1]),(g3,sgL .zero Z2),(g2,pkL .zero Z2)]) (fun _ _ h hb=>h.call hb) O4 [ec 0 12 (iz fe),ec 1 13 (.bool true),ec 2 14 (.bool true),ec 3 15 undef,ec 4 16 undef,ec 5 17 undef,ec 6 18 (.bool true)] rfl ⟨jm,jb fun _=>Y8l fe 0 true (by rw[bne_iff_ne];exact he) _ _ _,jm,jo,jo,jo,jp,trivial⟩ ?_;intro a w5 H O5;refine Z0 (H.condT rfl (wp_goto ?_));repeat (with_reducible refine G9 ?_)
  exact N4 ⟨hn,H.keep ⟨rfl,rfl,trivial⟩,_,_,rfl,rfl,drop1 O5⟩
 subst he;obtain⟨z,hz⟩:∃z,((fr.t:Int) != 2048)=z:=⟨_,rfl⟩;refine H.tb (fun w'=>X0 w g2 [(g5,[iz fr.d,iz fr.s,iz fr.t, .slice A1 fr.xs.length c1]),(g3,sgL .zero Z2),(g2,pkL .zero Z2)] w'∧Below w4.heap.size w4 w') (fun _ _ h hb=>⟨h.1.call hb,h.2.trans (hb.mono h.2.size)⟩) ⟨O4,Below.refl _ _⟩ [ec 0 12 (iz 0),ec 1 13 (.bool false),ec 2 14 (.bool false),ec 3 15 (.pointer (some ⟨g5,2,none⟩)),ec 4 16 (iz fr.t),ec 5 17 (.bool z),ec 6 18 (.bool z)] rfl ⟨jm,jb fun _=>Y8l 0 0 false rfl _ _ _,jm,jm,jl fun _ h=>h.1.li 0 2,jb fun _=>Z1c (fr.t:Int) 2048 z hz _ _ _,jp,trivial⟩ ?_;rintro a w5 H ⟨O5,hb5⟩;have hO5:=Y1 hO4 hb5;cases z with
 |true=>
  have hn:ans=none:=by rw[←hans,if_pos (.inr (by have:=bne_iff_ne.1 hz;show fr.t≠2048;omega))]
  refine Z0 (H.condT rfl (wp_goto ?_));repeat (with_reducible refine G9 ?_)
  exact N4 ⟨hn,H.keep ⟨rfl,rfl,trivial⟩,_,_,rfl,rfl,drop1 O5⟩
 |false=>
 have ht:fr.t=2048:=by
  rw[bne_eq_false_iff_eq] at hz;omega
 rw[if_neg (by rintro(h |h);exact h rfl;exact h ht)] at hans;refine Z0 (H.condF rfl (Z3 (Z0 ?_)));replace H:=H.kp [2,3,5];refine H.rg 1 fun a H=>?_;refine H.ld 0 (U8 _ _ _ _ _ _ ((O5.get 0 rfl).get 3 _ rfl)) fun a H=>?_;have hw5:w2.heap.size≤w5.heap.size:=Nat.le_trans hb3.size (Nat.le_trans hb4.size hb5.size);refine H.cl (J4y fr.xs A1 c1 hc1 w5 (S4 rfl hO5 hw5) (by omega)) ?_;have hpl:=J4x fr.xs;generalize X1 fr.xs=po at hans hpl;obtain⟨pk,pe⟩:=po;replace hpl:pk.xs.length≤fr.xs.length:=hpl;rintro a _ w6 ⟨A2,c2,rfl,hO6,hb6⟩ H;have O6:=O5.call hb6;have hc2:=Z4s hO6;refine H.ms 1 fun a H=>?_;refine H.ex (r:=.agg (pkL pk (.slice A2 pk.xs.length c2)).toArray) 0 fun a H=>?_;refine H.ex (r:=iz pe) 0 fun a H=>?_;refine H.storeS rfl rfl rfl rfl rfl (O6.get 2 rfl) Z2w rfl rfl rfl fun a w7 H hg7 hs7 hC7=>?_;have O7:=O6.store 2 rfl hg7 hs7 hC7;have hO7:=hO6.kept hg7 (.inr (Q1 hO6 (.inl (Nat.lt_of_lt_of_le hg23 hw5))).symm);refine H.ms 1 fun a H=>nt ?_;replace H:=H.kp [2,3,6];replace O7:X0 w g2 [(g3,sgL .zero Z2),(g2,pkL pk (.slice A2 pk.xs.length c2))] w7:=drop1 O7;by_cases he:pe=0
 rotate_left
 ·have hn:ans=none:=by rw[←hans,if_pos (.inl he)]
  refine H.tb (X0 w g2 [(g3,sgL .zero Z2),(g2,pkL pk (.slice A2 pk.xs.length c2))]) (fun _ _ h hb=>h.call hb) O7 [ec 0 25 (iz pe),ec 1 26 (.bool true),ec 2 27 (.bool true),ec 3 28 undef,ec 4 29 undef,ec 5 30 undef,ec 6 31 (.bool true)] rfl ⟨jm,jb fun _=>Y8l pe 0 true (by rw[bne_iff_ne];exact he) _ _ _,jm,jo,jo,jo,jp,trivial⟩ ?_;intro a w8 H O8;refine Z0 (H.condT rfl (wp_goto ?_));repeat (with_reducible refine G9 ?_)
  exact N4 ⟨hn,H.keep ⟨rfl,rfl,trivial⟩,_,_,rfl,rfl,O8⟩
 subst he;obtain⟨z,hz⟩:∃z,(pk.p != 6)=z:=⟨_,rfl⟩;refine H.tb (fun w'=>X0 w g2 [(g3,sgL .zero Z2),(g2,pkL pk (.slice A2 pk.xs.length c2))] w'∧Below w7.heap.size w7 w') (fun _ _ h hb=>⟨h.1.call hb,h.2.trans (hb.mono h.2.size)⟩) ⟨O7,Below.refl _ _⟩ [ec 0 25 (iz 0),ec 1 26 (.bool false),ec 2 27 (.bool false),ec 3 28 (.pointer (some ⟨g2,2,none⟩)),ec 4 29 (iz pk.p),ec 5 30 (.bool z),ec 6 31 (.bool z)] rfl ⟨jm,jb fun _=>Y8l 0 0 false rfl _ _ _,jm,jm,jl fun _ h=>h.1.li 1 2,jb fun _=>Z1c pk.p 6 z hz _ _ _,jp,trivial⟩ ?_;rintro a w8 H ⟨O8,hb8⟩;have hO8:=Y1 hO7 hb8;cases z with
 |true=>
  have hn:ans=none:=by rw[←hans,if_pos (.inr (bne_iff_ne.1 hz))]
  refine Z0 (H.condT rfl (wp_goto ?_));repeat (with_reducible refine G9 ?_)
  exact N4 ⟨hn,H.keep ⟨rfl,rfl,trivial⟩,_,_,rfl,rfl,O8⟩
 |false=>
 rw[if_neg (by rintro(h |h);exact h rfl;exact h (bne_eq_false_iff_eq.1 hz))] at hans;refine Z0 (H.condF rfl (Z3 (Z0 ?_)));replace H:=H.kp [2,3];refine H.rg 1 fun a H=>?_;refine H.ld 1 (O8.li 1 0) fun a H=>?_;refine H.ld 1 (O8.li 1 1) fun a H=>?_;refine H.ld 0 (U8 _ _ _ _ _ _ ((O8.get 1 rfl).get 5 _ rfl)) fun a H=>?_;have hw6:w5.heap.size≤w8.heap.size:=Nat.le_trans hb6.size (Nat.le_trans (Nat.le_of_eq hs7.symm) hb8.size);refine H.cl (J0v pk.s pk.d pk.xs A2 c2 hc2 w8 (S4 rfl hO8 hw6) (by omega)) ?_;generalize hso:G7 pk.s pk.d pk.xs=so at hans;obtain⟨sg,se⟩:=so;rintro a _ w9 ⟨A3,c3,rfl,hO9,hb9⟩ H;have O9:=O8.call hb9;refine H.ms 1 fun a H=>?_;refine H.ex (r:=.agg (sgL sg (.slice A3 sg.xs.length c3)).toArray) 0 fun a H=>?_;refine H.ex (r:=iz se) 0 fun a H=>?_;refine H.storeS rfl rfl rfl rfl rfl (O9.get 0 rfl) Z1s rfl rfl rfl fun a w10 H hg10 hs10 hC10=>?_;have O10:=O9.store 0 rfl hg10 hs10 hC10;have hw8:w2.heap.size≤w8.heap.size:=Nat.le_trans hw5 hw6;have hO10:=hO9.kept hg10 (.inr (Q1 hO9 (.inl (Nat.lt_of_lt_of_le hg3 hw8))).symm);refine H.ms 1 fun a H=>nt ?_;refine H.rg 1 fun a H=>?_;by_cases he:se=0
 rotate_left
 ·have hn:ans=none:=by rw[←hans,if_pos he]
  refine H.bb 0 rfl rfl rfl rfl rfl rfl (Y8l se 0 true (by rw[bne_iff_ne];exact he) _ _ _) rfl fun a H=>nt (H.condT rfl (wp_goto ?_));repeat (with_reducible refine G9 ?_)
  exact N4 ⟨hn,H.keep ⟨rfl,rfl,trivial⟩,_,_,rfl,rfl,O10⟩
 subst he;rw[if_neg (fun h=>h rfl)] at hans;refine H.bb 0 rfl rfl rfl rfl rfl rfl (Y8l 0 0 false rfl _ _ _) rfl fun a H=>nt (H.condF rfl (Z3 (Z0 ?_)));replace H:=H.kp [2,3];have hgw:g3<w8.heap.size∧g2<w8.heap.size:=⟨by omega,by omega⟩;refine H.sg (fun w'=>X0 w g2 [(g3,sgL sg (.slice A3 sg.xs.length c3)),(g2,pkL pk (.slice A2 pk.xs.length c2))] w'∧w'.ownsRow w8.heap.size 5 1 (.slice A3 sg.xs.length c3) sg.xs.length (sg.xs.map bv)) ⟨O10.drew,Y1 hO10 (Below.drew (Below.refl _ _))⟩ [2,3] [ec 0 44 (.agg (pkL pk (.slice A2 pk.xs.length c2)).toArray),ec 1 45 (.agg (sgL sg (.slice A3 sg.xs.length c3)).toArray)] rfl ?_;refine St.sto 2 ⟨jl fun _ h=>Y5k (h.1.get 1 rfl) Tryz.underlying89 rfl Z2w rfl,jl fun _ h=>Y5k (h.1.get 0 rfl) Tryz.underlying36 rfl Z1s rfl,trivial⟩ ?_;rintro a wu H _ ⟨Ou,hOu⟩;obtain⟨w',hr,hg',hs',hC'⟩:=(Ou.get 1 rfl).sto (L:=pkL pk (.slice A2 pk.xs.length c2)) Z2w rfl rfl rfl;refine⟨w',Q6 rfl (H.ev rfl) (H.ev rfl) hr,nx0 (fun w'=>X0 w g2 [(g3,sgL sg (.slice A3 sg.xs.length c3)),(g2,pkL pk (.slice A2 pk.xs.length c2))] w'∧w'.ownsRow w8.heap.size 5 1 (.slice A3 sg.xs.length c3) sg.xs.length (sg.xs.map bv)) [] [] ⟨Ou.store 1 rfl hg' hs' hC',hOu.kept hg' (.inr (Q1 hOu (.inl hgw.2)).symm)⟩ ?_⟩;refine St.sto 3 ⟨jl fun _ h=>Y5k (h.1.get 0 rfl) Tryz.underlying36 rfl Z1s rfl,trivial⟩ ?_;clear hr hg' hs' hC' Ou hOu;rintro a wu H _ ⟨Ou,hOu⟩;obtain⟨w',hr,hg',hs',hC'⟩:=(Ou.get 0 rfl).sto (L:=sgL sg (.slice A3 sg.xs.length c3)) Z1s rfl rfl rfl;refine⟨w',Q6 rfl (H.ev rfl) (H.ev rfl) hr,nx0 (fun w'=>X0 w g2 [(g3,sgL sg (.slice A3 sg.xs.length c3)),(g2,pkL pk (.slice A2 pk.xs.length c2))] w'∧w'.ownsRow w8.heap.size 5 1 (.slice A3 sg.xs.length c3) sg.xs.length (sg.xs.map bv)) [ec 4 4 (.bool true)] [] ⟨Ou.store 0 rfl hg' hs' hC',hOu.kept hg' (.inr (Q1 hOu (.inl hgw.1)).symm)⟩ ?_⟩;refine St.fin ⟨jm,trivial⟩ ?_;rintro a w11 H _ ⟨O11,hO11⟩;refine Z0 (wp_ret ?_);repeat (first |(with_reducible refine Z2d ?_) |(with_reducible refine Z5 ?_))
 refine bodyPost_ret (Y3q rfl _ (H.at_ 2 _ rfl) (H.at_ 3 _ rfl) (H.at_ 4 _ rfl) (X3a (O11.get 1 rfl) rfl) (X3b (O11.get 0 rfl) rfl)) H.df ⟨_,rfl, ?_⟩;rw[hans0,←hans];exact⟨_,_,_,A3,c3,rfl,V2 hO11 (by omega),bl O11⟩
end
section
open Go.RowKit
section
variable {P:Program}(w:World)
theorem Y2r (base:Nat) (t ty e:TypeId) (z:Value) (size bytes:Nat) (ht:P.underlying t=some (.slice e)) (hi:(P.info? e).map (fun i=>(i.zero,i.size,i.bytes))=some (some z,size,bytes)) (hzs:z.cells.size=size) (hsz:0<size)
  (v:Value) (n:Nat) (xs:List Value) (hown:w.ownsRow base e size v n xs)
  (B:Nat) (A:Option Addr) (m c:Nat) (news:List Value) (hr:X4 w B size A m news) (h1:∀u∈news,u.oneCell'=true)
  (h63:n+m≤maxLen) (hbytes:(n+m)*bytes≤140737488355328) (hbase:base≤w.heap.size):
  ∃A' c' w',(Builtin.append_ #[t,t] ty #[v, .slice A m c]).run P w = .ok (.slice A' (n+m) c') w'∧w'.ownsRow base e size (.slice A' (n+m) c') (n+m) (xs++news)∧w.grownBy w' v.ownBlock∧((Value.slice A' (n+m) c').ownBlock=v.ownBlock∨(Value.slice A' (n+m) c').ownBlock=some w.heap.size):=by
 obtain⟨i,hi0,hz0,hz1,hz2⟩:=info_parts hi;rcases A with _ |ad
 ·have hm:m=0:=by
   rcases Nat.eq_zero_or_pos m with h0 |h0
   ·exact h0
   ·obtain⟨ad,h,_⟩:=hr.2 h0
    cases h
  subst hm;have hn:news=[]:=List.eq_nil_of_length_eq_zero (by simpa using hr.1);subst hn;obtain⟨A,c1,rfl,_,_⟩:=V3 hown;exact⟨A,c1,w,Z6h w base t ty e i size ht hi0 _ n xs hown c,by simpa using hown,World.grownBy.refl w _, .inl rfl⟩
 ·have hcells:∀j u,news[j]? = some u→w.cell? (ad.add j)=some u:=by
   intro j u hu;rcases Nat.eq_zero_or_pos m with h0 |h0
   ·subst h0
    have hn:news=[]:=List.eq_nil_of_length_eq_zero (by simpa using hr.1);subst hn;simp at hu
   ·obtain⟨ad',h,_,hc⟩:=hr.2 h0
    injection h with h
    subst h;exact hc j u hu
  obtain⟨v',w',hrun,h2,h3,_,h4⟩:=run_append_own_at (P:=P) w base t ty e i z size bytes ht hi0 hz0 hz1 hz2 hzs hsz v n xs hown ad m c news hr.1 hcells h1 h63 hbytes hbase;obtain⟨A',c',rfl,_,_⟩:=V3 h2;exact⟨A',c',w',hrun,h2,h3,h4⟩
end
theorem X3c {P:Program}{o:Oper}{a:Act}{w:World}{s x:Operand}{t:TypeId}(ho:o.op = .call { callee:=.builtin .append,args:=#[s,x],argTypes:=#[t,t] }) {base:Nat}{e:TypeId}{z:Value}{size bytes:Nat}(ht:P.underlying t=some (.slice e)) (hi:(P.info? e).map (fun i=>(i.zero,i.size,i.bytes))=some (some z,size,bytes)) (hzs:z.cells.size=size) (hsz:0<size)
  {v:Value}{n:Nat}{xs:List Value}(hs:a.eval s=v) (hown:w.ownsRow base e size v n xs) {A:Option Addr}{m c:Nat}{ys:List Value}(hx:a.eval x = .slice A m c) (hr:X4 w w.heap.size size A m ys) (h1:∀u∈ys,u.oneCell'=true) (hn:n+m≤maxLen) (hb:(n+m)*bytes≤140737488355328) (hbase:base≤w.heap.size):
  ∃A' c' w',(execOp a.eval o).run P w = .ok (.value (.slice A' (n+m) c')) w'∧w'.ownsRow base e size (.slice A' (n+m) c') (n+m) (xs++ys)∧w.grownBy w' v.ownBlock∧((Value.slice A' (n+m) c').ownBlock=v.ownBlock∨(Value.slice A' (n+m) c').ownBlock=some w.heap.size):=by
 obtain⟨A',c',w',hrun,h2,h3⟩:=Y2r (P:=P) w base t o.type e z size bytes ht hi hzs hsz v n xs hown w.heap.size A m c ys hr h1 hn hb hbase;refine⟨A',c',w', ?_,h2,h3⟩;unfold execOp;simp only[ho,resolve,invoke,builtin,Sem.run_bind,Sem.run_pure,Result.andThen_ok,List.map_toArray,List.map_cons,List.map_nil,hs,hx,hrun]
section
variable {ops:Array Oper}{Q:Exit→Act→World→Prop}{n:Nat}{fixed:List (Nat×Value)}{F:World→Prop}{es:List Y7}{done:List Nat}{d:Nat}{o:Oper}
theorem St.appF (h:Nat) {s x:Operand}{t e:TypeId}{base size bytes m:Nat}{z:Value}{u:Value}{k c:Nat}{A:Option Addr}{xs ys:List Value}(hi:(Tryz.prog.info? e).map (fun i=>(i.zero,i.size,i.bytes))=some (some z,size,bytes)) (hl:Z0h ops Q n fixed F es done es)
  (hrun:∀w,F w→w.ownsRow base e size u k xs∧X4 w w.heap.size size A m ys∧base≤w.heap.size) (h1:∀u∈ys,u.oneCell'=true) (hn:k+m≤maxLen∧(k+m)*bytes≤140737488355328) (hk:∀w A' c' w',F w→w'.ownsRow base e size (.slice A' (k+m) c') (k+m) (xs++ys)→w.grownBy w' u.ownBlock→((Value.slice A' (k+m) c').ownBlock=u.ownBlock∨(Value.slice A' (k+m) c').ownBlock=some w.heap.size)→Nx ops Q n fixed es done h d (.slice A' (k+m) c') w w')
  (ho:ops[h]? = some o:=by rfl) (hp:o.op = .call { callee:=.builtin .append,args:=#[s,x],argTypes:=#[t,t] }:=by rfl) (hd:o.dst=some d:=by rfl) (ht:Tryz.prog.underlying t=some (.slice e):=by kernel_rfl) (hzs:z.cells.size=size:=by rfl) (hsz:0<size:=by decide) (hg:okG ops (fixed++K8 (D4 ops h) es) o=true:=by rfl)
  (hs:W1 (fixed++K8 (D4 ops h) es) s=some u:=by rfl) (hx:W1 (fixed++K8 (D4 ops h) es) x=some (.slice A m c):=by rfl) (hB:stB ops n fixed es done h=true:=by kernel_rfl) (hN:Nat.ble ops.size 1000=true:=by kernel_rfl) (hback:Y5f ops=true:=by kernel_rfl)
  (hF:es.all Z1y=true∨∀w w',F w→Below w.heap.size w w'→F w':=by exact .inl rfl) (hst:D2 es:=by exact trivial):St ops Q n fixed es F done:=by
 refine St.val h hl ?_ ho hd hg hB hN hback hF hst;intro a w H _ hFw;obtain⟨r1,r2,r3⟩:=hrun w hFw;obtain⟨A',c',w',hr,hO,hgr,hfr⟩:=X3c (a:=a) hp ht hi hzs hsz (H.ev hs) r1 (H.ev hx) r2 h1 hn.1 hn.2 r3;exact⟨_,w',hr,hk w A' c' w' hFw hO hgr hfr⟩
end
end
end Go.Proofs.YtlacidnnankjlaaGreatDoor
