/-
  Texts of the claim: InvQ InvT Tab LoopW Join GMore Ether EtherB CliW CliA CliM Float Span SpanM EtherP Shelf PackW PackT Plain TextR TextP MqDef Strs MqRead RdW RdP RdR MqMem RdV MqOps WillQ Off IpN SegN.
-/
import Derived.Lib.MinMax
import Derived.Laws.FloatArith
import Derived.WalkLawsBesides
import Derived.Shelf.Small.Utf8
import Derived.Shelf.Small.Strs
import Derived.Shelf.Strings.Search1
import Derived.Shelf.Strings.Search2
import Derived.Shelf.Strings.Search3
import Derived.Shelf.LaysM
import Derived.Shelf.Strings.Shaped
import Derived.Shelf.Strings.Runes
import Derived.Shelf.Strings.IndexAny
import Derived.Shelf.Strings.AsciiSet
import Derived.Shelf.Strings.IndexAnyAll
import Derived.Shelf.Unicode.ValidAny
import Derived.Test.YtlacidnnankjlaaGreatDoorProg
import Derived.Lib.AppendStr
import Derived.Lib.ValidU
import Derived.Laws.RangeAny
import Derived.Lib.OthersKept
import Derived.Laws.Runes
import Derived.Deep.LoopGhost
import Derived.Deep.QuietTactic
import Derived.BigQuiet
import Derived.OwnWalk
import Derived.RegionTactic
import Derived.BigRegion
import Derived.Laws.IdiomStrings
import Derived.Lib.BufferRead
import Derived.Test.YtlacidnnankjlaaGreatDoorCt1
namespace Go.Proofs.YtlacidnnankjlaaGreatDoor
set_option maxRecDepth 100000
set_option maxHeartbeats 25600000
section
open Go.RowKit
theorem loadS_run {w : World} {g : Nat} {L : List Value} {m : Nat} (hC : Cells w g L) (hi : (Tryz.prog.info? 49).map (·.size) = some m := by exact size_mq) (hl : L.length = m := by rfl) : (Instr.loadAt 49 (pz g)).run Tryz.prog w = .ok (.agg L.toArray) w := by
 rw [← hl] at hi
 have := run_loadVar_mid w g 0 49 L _ hC.range Tryz.underlying49 rfl hi
 simp only [Instr.loadAt, Instr.sureAddr, Sem.run_bind, Sem.run_pure, Result.andThen_ok, this]
theorem Cells.sto {w : World} {g T m : Nat} {L0 L : List Value} (hC : Cells w g L0) (hm : (Tryz.prog.info? T).map (·.size) = some m) (h0 : L0.length = m) (h1 : L.length = m) (hc : L.all (·.oneCell') = true) :
  ∃ w', (Instr.storeAt T (pz g) (.agg L.toArray)).run Tryz.prog w = .ok () w' ∧ w.grownBy w' (some g) ∧ w'.heap.size = w.heap.size ∧ Cells w' g L := by
 have ht : w.there g 0 L.toArray.size := by
  have := hC.there
  rw [h0, ← h1] at this
  simpa using this
 refine ⟨_, run_storeAt_mid w g 0 T L.toArray ht (by rw [hm, ← h1]; simp) (all_oneCell_toArray fun v hv => List.all_eq_true.1 hc v hv), (setCells_only g _ 0 w).2, (setCells_only g _ 0 w).1.size, ?_⟩
 intro j v hv
 have hj := (List.getElem?_eq_some_iff.1 hv).1
 have a := World.rangeAt_setCells_same w g 0 L (by simpa using ht) j v hv
 have b := (World.there_setCells (by simpa using ht) g 0 L j hj).2
 rw [Nat.zero_add] at a b
 exact ⟨a, b⟩
def KnownR (L : List Edge) (a : Act) (w : World) : List EntC → Prop
 | [] => True
 | ⟨k, s, _, c, q, _⟩ :: ts => match c with
  | some _ => KnownR L a w ts
  | none => bif aft L k then (q (a.eval (.tmp s)) w ∧ KnownR L a w ts) else KnownR L a w ts
def HeavyE (ops : Array Oper) (Q : Exit → Act → World → Prop) (n : Nat) (fixed : List (Nat × Value)) (Wp : World → Prop) (es : List EntC) (t : EntC) : Prop :=
 ∀ (K : Act → World → Prop) (a : Act) (w : World), Has a n (fixed ++ knownE (afts ops t.op) es) → KnownR (afts ops t.op) a w es → Wp w → (∀ v w', t.e.p v w' → Below w.heap.size w w' → K (a.put (some t.slot) v) w') → wpOp Tryz.prog ops Q t.op K a w
def HeavyAll (ops : Array Oper) (Q : Exit → Act → World → Prop) (n : Nat) (fixed : List (Nat × Value)) (Wp : World → Prop) (es : List EntC) : List EntC → Prop
 | [] => True
 | ⟨k, s, ks, c, q, m⟩ :: ts => match c, m with
  | some _, false => HeavyAll ops Q n fixed Wp es ts
  | _, _ => HeavyE ops Q n fixed Wp es ⟨k, s, ks, c, q, m⟩ ∧ HeavyAll ops Q n fixed Wp es ts
def StabAll : List EntC → Prop
 | [] => True
 | ⟨_, _, _, c, q, _⟩ :: ts => match c with
  | some _ => StabAll ts
  | none => (∀ u w w', Below w.heap.size w w' → q u w → q u w') ∧ StabAll ts
def finV : List EntC → List (Nat × Value)
 | [] => []
 | ⟨_, s, _, c, _, _⟩ :: ts => match c with
  | some v => (s, v) :: finV ts
  | none => finV ts
def FinR (a : Act) (w : World) : List EntC → Prop
 | [] => True
 | ⟨_, s, _, c, q, _⟩ :: ts => match c with
  | some _ => FinR a w ts
  | none => q (a.eval (.tmp s)) w ∧ FinR a w ts
theorem StabAll.all {i : Nat} {listed : Array Bool} {w w' : World} (hb : Below w.heap.size w w') : ∀ {es : List EntC}, StabAll es → AllC i listed w w' es
 | [], _ => trivial
 | t :: ts, h => by
  unfold StabAll at h
  unfold AllC
  cases hc : t.c with
  | some v => rw [hc] at h; exact StabAll.all hb h
  | none =>
   rw [hc] at h
   exact ⟨fun _ _ _ _ u hu => h.1 u w w' hb hu, StabAll.all hb h.2⟩
section
variable {ops : Array Oper} {Q : Exit → Act → World → Prop} {n : Nat} {l fixed : List (Nat × Value)} {Wp : World → Prop} {es : List EntC} {i s : Nat} {v : Value} {o : Oper}
theorem heavy_at : ∀ {ts : List EntC}, HeavyAll ops Q n fixed Wp es ts → ∀ t ∈ ts, (t.c = none ∨ t.arm = true) → HeavyE ops Q n fixed Wp es t
 | u :: us, h, t, ht, hc => by
  unfold HeavyAll at h
  rcases List.mem_cons.1 ht with rfl | ht
  ·split at h
   ·next h1 h2 =>
    rcases hc with hc | hc
    ·rw [hc] at h1; cases h1
    ·rw [hc] at h2; cases h2
   ·exact h.1
  ·split at h
   ·exact heavy_at h t ht hc
   ·exact heavy_at h.2 t ht hc
theorem heavy_ex {N i : Nat} : ∀ {ts : List EntC}, heavyL N ts i → ∃ t ∈ ts, t.op = i ∧ (t.c = none ∨ t.arm = true)
 | u :: us, h => by
  unfold heavyL at h
  have go : heavyL N us i → ∃ t ∈ u :: us, t.op = i ∧ (t.c = none ∨ t.arm = true) := fun h => by
   obtain ⟨t, ht, hx⟩ := heavy_ex h
   exact ⟨t, List.mem_cons_of_mem _ ht, hx⟩
  split at h
  ·exact go h
  ·next h1 =>
   cases hb : Nat.blt u.op N with
   | false => rw [hb, cond_false] at h; exact go h
   | true =>
    rw [hb, cond_true] at h
    rcases h with h | h
    ·refine ⟨u, List.mem_cons_self, h.symm, ?_⟩
     cases hc : u.c with
     | none => exact .inl rfl
     | some v =>
      cases hm : u.arm with
      | true => exact .inr rfl
      | false => exact (h1 v hc hm).elim
    ·exact go h
theorem knownR_ok {listed : Array Bool} {a : Act} {w : World} (hI : InvB n fixed (es.map EntC.e) Wp listed a w) (hkill : es.all (fun t => t.kill.isEmpty) = true) {f : Array Edge} (hd : ∀ e ∈ f, Region.binds .any e = true → listed.getD e.on false = true) : ∀ {ts : List EntC}, (∀ t ∈ ts, t ∈ es) → KnownR f.toList a w ts
 | [], _ => trivial
 | t :: ts, h => by
  have ih := knownR_ok hI hkill hd (ts := ts) fun u hu => h u (List.mem_cons_of_mem _ hu)
  have ht := h t List.mem_cons_self
  unfold KnownR
  cases hc : t.c with
  | some v => exact ih
  | none =>
   cases hb : aft f.toList t.op with
   | false => exact ih
   | true =>
    have hr : listed.getD t.op false = true := ran_of hd t.op (by unfold aft at hb; simpa using hb)
    have hk : t.kill = [] := by simpa using List.all_eq_true.1 hkill t ht
    have := hI.vs t.e (List.mem_map_of_mem ht) (.inr (by rw [EntC.e_op]; exact hr)) (by simp only [EntC.e, hc, hk]; trivial)
    simp only [EntC.e, hc] at this
    exact ⟨this, ih⟩
theorem finV_ok {listed : Array Bool} {a : Act} {w : World} (hI : InvB n fixed (es.map EntC.e) Wp listed a w) (hall : ∀ t ∈ es, listed.getD t.op false = true) : ∀ {ts : List EntC}, (∀ t ∈ ts, t ∈ es) → AllEv a (finV ts)
 | [], _ => trivial
 | t :: ts, h => by
  have ih := finV_ok hI hall (ts := ts) fun u hu => h u (List.mem_cons_of_mem _ hu)
  have ht := h t List.mem_cons_self
  unfold finV
  cases hc : t.c with
  | none => exact ih
  | some v =>
   have := hI.vs t.e (List.mem_map_of_mem ht) (.inr (by rw [EntC.e_op]; exact hall t ht)) (by simp only [EntC.e, hc]; trivial)
   simp only [EntC.e, hc] at this
   exact ⟨this, ih⟩
theorem finR_ok {listed : Array Bool} {a : Act} {w : World} (hI : InvB n fixed (es.map EntC.e) Wp listed a w) (hkill : es.all (fun t => t.kill.isEmpty) = true) (hall : ∀ t ∈ es, listed.getD t.op false = true) : ∀ {ts : List EntC}, (∀ t ∈ ts, t ∈ es) → FinR a w ts
 | [], _ => trivial
 | t :: ts, h => by
  have ih := finR_ok hI hkill hall (ts := ts) fun u hu => h u (List.mem_cons_of_mem _ hu)
  have ht := h t List.mem_cons_self
  unfold FinR
  cases hc : t.c with
  | some v => exact ih
  | none =>
   have hk : t.kill = [] := by simpa using List.all_eq_true.1 hkill t ht
   have := hI.vs t.e (List.mem_map_of_mem ht) (.inr (by rw [EntC.e_op]; exact hall t ht)) (by simp only [EntC.e, hc, hk]; trivial)
   simp only [EntC.e, hc] at this
   exact ⟨this, ih⟩
theorem Has.dq {a : Act} {w : World} {c : Code} {id : Nat} {Q' : Exit → Act → World → Prop} (H : Has a n l) (Wp : World → Prop) (hk : ∀ w w', Wp w → Below w.heap.size w w' → Wp w') (hw : Wp w) (ss : List Nat) (hs : sel l ss = some fixed) (es : List EntC) (hc : peel Tryz.prog c Q' = (.region id ops true, Q)) (hp : PureAll ops Q n fixed Wp es es) (hh : HeavyAll ops Q n fixed Wp es es)
  (hfin : ∀ (a : Act) (w : World), Has a n (fixed ++ finV es) → FinR a w es → Wp w → Q .normal a w) (hst : StabAll es := by exact trivial) (h0 : startL ops.size a w.drew es := by exact trivial)
  (hf : (fitsB n fixed (es.map EntC.e) && (es.all (fun t => !plainB t || !([] : List Nat).contains t.op) && (([] : List Nat).all (fun j => Nat.blt j ops.size) && (coverD ops.size es [] && Nat.ble ops.size 1000)))) = true := by kernel_rfl)
  (hl : (es.all (fun t => t.kill.isEmpty) && es.all (fun t => Nat.blt t.op ops.size)) = true := by kernel_rfl)
  (hback : (List.range ops.size).all (fun i => match ops[i]? with | some o => o.after.all (fun e => !Region.binds .any e || decide (e.on < i)) | none => true) = true := by kernel_rfl) (hm : Tryz.prog.follows .mixedOrders = true := by kernel_rfl) : c.wp Tryz.prog Q' a w := by
 have hf' := hf
 simp only [Bool.and_eq_true] at hf' hl
 obtain ⟨hf1, _, _, _, hN⟩ := hf'
 have hN : ops.size ≤ 1000 := by simpa using hN
 refine H.dg [] Wp (fun _ _ => True) ss hs es [] hc (hk _ _ hw (Below.drew (Below.refl _ _))) trivial hp h0 ?_ ?_ hf hback hm
 ·intro listed a w i o hsz hni hcl ho hd hI hh'
  have hh' : heavyL ops.size es i := by
   rcases hh' with h | h
   ·exact h
   ·exact False.elim h
  obtain ⟨t, ht, rfl, hx⟩ := heavy_ex hh'
  have hi : t.op < listed.size := by rw [hsz]; exact (Array.getElem?_eq_some_iff.1 ho).1
  have hkk : afts ops t.op = o.after.toList := by unfold afts; rw [ho]
  have hE := heavy_at hh t ht hx
  unfold HeavyE at hE
  rw [hkk] at hE
  refine hE _ a w (Has.of hI.sz hI.df (AllEv.app hI.fx (known_ok hI hd fun _ h => h))) (knownR_ok hI hl.1 hd fun _ h => h) hI.wp.1 ?_
  intro v w' hpv hb
  have := hI.put (Wp' := Wfl [] Wp (fun _ _ => True) (listed.setIfInBounds t.op true)) hf1 t.e (List.mem_map_of_mem ht) (by rw [EntC.e_op]; exact hi) (by rw [hsz]; exact hN) v hpv ⟨hk _ _ hI.wp.1 hb, trivial⟩ (StabAll.all hb hst).all
  rw [EntC.e_op] at this
  have hsl : t.e.slot = t.slot := by unfold EntC.e; split <;> rfl
  rw [hsl] at this
  exact this
 ·intro listed a w hall hI
  have hall' : ∀ t ∈ es, listed.getD t.op false = true := fun t ht => hall t.op (by simpa [Nat.blt_eq] using List.all_eq_true.1 hl.2 t ht)
  exact hfin a w (Has.of hI.sz hI.df (AllEv.app hI.fx (finV_ok hI hall' fun _ h => h))) (finR_ok hI hl.1 hall' fun _ h => h) hI.wp.1
theorem kb {f : FuncId} {xs : Array Operand} {ats : Array TypeId} {vs : List Value} (hc : ∀ w, Wp w → Calls Tryz.prog f vs.toArray w fun e w' => e = .returned v ∧ Below w.heap.size w w') (ho : ops[i]? = some o := by rfl) (hp : o.op = .call { callee := .value (.func f), args := xs, argTypes := ats } := by rfl) (hd : o.dst = some s := by rfl)
  (hg : okG ops (fixed ++ knownE (afts ops i) es) o = true := by rfl) (hx : evLs (fixed ++ knownE (afts ops i) es) xs.toList = some vs := by rfl) (hen : ∀ (args : Array Value) (w : World), (callFunc f args).run Tryz.prog w = .ok (.enter f args) w := by exact fun _ _ => by kernel_rfl) : HeavyE ops Q n fixed Wp es (eh i s v) :=
 fun _ _ w H _ hw hK => wpOp_enter ho (okG_w H hg) s hd f _ (run_callH H hp hx hen) _ (belowC (hc w hw)) (by rintro _ w' ⟨rfl, hb⟩; exact hK _ w' rfl hb)
theorem kr {f : FuncId} {xs : Array Operand} {ats : Array TypeId} {vs : List Value} {q : Value → World → Prop} (hc : ∀ w, Wp w → Calls Tryz.prog f vs.toArray w fun e w' => ∃ v, e = .returned v ∧ (q v w' ∧ Below w.heap.size w w')) (ho : ops[i]? = some o := by rfl) (hp : o.op = .call { callee := .value (.func f), args := xs, argTypes := ats } := by rfl) (hd : o.dst = some s := by rfl)
  (hg : okG ops (fixed ++ knownE (afts ops i) es) o = true := by rfl) (hx : evLs (fixed ++ knownE (afts ops i) es) xs.toList = some vs := by rfl) (hen : ∀ (args : Array Value) (w : World), (callFunc f args).run Tryz.prog w = .ok (.enter f args) w := by exact fun _ _ => by kernel_rfl) : HeavyE ops Q n fixed Wp es (er i s [] q) :=
 fun _ _ w H _ hw hK => wpOp_enter ho (okG_w H hg) s hd f _ (run_callH H hp hx hen) _ (hc w hw) (by rintro _ w' ⟨hq, hb⟩; exact hK _ w' hq hb)
theorem ko (ho : ops[i]? = some o := by rfl) (hd : o.dst = some s := by rfl) (hg : offG ops (fixed ++ knownE (afts ops i) es) o = true := by rfl) : HeavyE ops Q n fixed Wp es (eh i s undef) :=
 fun _ _ w H _ _ hK => wpOp_off ho (offG_w H hg) (by rw [hd]; exact hK undef w rfl (Below.refl _ _))
theorem kor {q : Value → World → Prop} (hq : ∀ w, q undef w) (ho : ops[i]? = some o := by rfl) (hd : o.dst = some s := by rfl) (hg : offG ops (fixed ++ knownE (afts ops i) es) o = true := by rfl) : HeavyE ops Q n fixed Wp es (er i s [] q) :=
 fun _ _ w H _ _ hK => wpOp_off ho (offG_w H hg) (by rw [hd]; exact hK undef w (hq w) (Below.refl _ _))
theorem kc {f : FuncId} {xs : Array Operand} {ats : Array TypeId} {t : EntC} (hc : ∀ a w, Has a n (fixed ++ knownE (afts ops t.op) es) → KnownR (afts ops t.op) a w es → Wp w → ∃ vs : List Value, xs.toList.map a.eval = vs ∧ Calls Tryz.prog f vs.toArray w fun e w' => ∃ v, e = .returned v ∧ (t.e.p v w' ∧ Below w.heap.size w w')) (ho : ops[t.op]? = some o := by rfl)
  (hp : o.op = .call { callee := .value (.func f), args := xs, argTypes := ats } := by rfl) (hd : o.dst = some t.slot := by rfl) (hg : okG ops (fixed ++ knownE (afts ops t.op) es) o = true := by rfl) (hen : ∀ (args : Array Value) (w : World), (callFunc f args).run Tryz.prog w = .ok (.enter f args) w := by exact fun _ _ => by kernel_rfl) : HeavyE ops Q n fixed Wp es t := by
 intro K a w H hr hw hK
 obtain ⟨vs, e, hc⟩ := hc a w H hr hw
 exact wpOp_enter ho (okG_w H hg) t.slot hd f _ (run_call hp (by rw [← e, ← Array.toList_map, Array.toArray_toList]) hen) _ hc (by rintro _ w' ⟨hq, hb⟩; exact hK _ w' hq hb)
theorem kx {t : EntC} (hrun : ∀ a w, Has a n (fixed ++ knownE (afts ops t.op) es) → KnownR (afts ops t.op) a w es → Wp w → ∃ v w', (execOp a.eval o).run Tryz.prog w = .ok (.value v) w' ∧ t.e.p v w' ∧ Below w.heap.size w w') (ho : ops[t.op]? = some o := by rfl) (hd : o.dst = some t.slot := by rfl)
  (hg : okG ops (fixed ++ knownE (afts ops t.op) es) o = true := by rfl) : HeavyE ops Q n fixed Wp es t := by
 intro K a w H hr hw hK
 obtain ⟨v, w', h, hq, hb⟩ := hrun a w H hr hw
 exact wpOp_go ho (okG_w H hg) t.slot hd v w' h (hK v w' hq hb)
end
end
section
open Go.RowKit
def memN : List Nat → Nat → Bool
 | [], _ => false
 | x :: l, k => bif Nat.beq x k then true else memN l k
theorem memN_ok {k : Nat} : ∀ {l : List Nat}, memN l k = true → k ∈ l
 | x :: l, h => by
  unfold memN at h
  cases hb : Nat.beq x k with
  | true => rw [Nat.eq_of_beq_eq_true hb]; exact List.mem_cons_self
  | false => rw [hb, cond_false] at h; exact List.mem_cons_of_mem _ (memN_ok h)
theorem memN_of {k : Nat} : ∀ {l : List Nat}, k ∈ l → memN l k = true
 | x :: l, h => by
  unfold memN
  rcases List.mem_cons.1 h with rfl | h
  ·rw [Nat.beq_refl, cond_true]
  ·cases Nat.beq x k with
   | true => rfl
   | false => exact memN_of h
def ons : List Edge → List Nat → List Nat
 | [], S => S
 | e :: L, S => bif Region.binds .any e then e.on :: ons L S else ons L S
def ancGo (ops : Array Oper) : Nat → List Nat → List Nat
 | 0, S => S
 | i + 1, S => ancGo ops i (bif memN S i then ons (afts ops i) S else S)
def doneN (ops : Array Oper) (h : Nat) (done : List Nat) : List Nat := ancGo ops (h + 1) (h :: done)
theorem ons_ok {listed : Array Bool} : ∀ {L : List Edge} {S : List Nat}, (∀ e ∈ L, Region.binds .any e = true → listed.getD e.on false = true) → (∀ j ∈ S, listed.getD j false = true) → ∀ j ∈ ons L S, listed.getD j false = true
 | [], S, _, hS, j, hj => hS j hj
 | e :: L, S, hL, hS, j, hj => by
  have ih := ons_ok (L := L) (S := S) (fun e' he => hL e' (List.mem_cons_of_mem _ he)) hS
  unfold ons at hj
  cases hb : Region.binds .any e with
  | true =>
   rw [hb, cond_true] at hj
   rcases List.mem_cons.1 hj with rfl | hj
   ·exact hL e List.mem_cons_self hb
   ·exact ih j hj
  | false => rw [hb, cond_false] at hj; exact ih j hj
theorem anc_ok {ops : Array Oper} {listed : Array Bool} (hc : Closed .any ops listed) : ∀ (i : Nat) {S : List Nat}, (∀ j ∈ S, listed.getD j false = true) → ∀ j ∈ ancGo ops i S, listed.getD j false = true
 | 0, _, hS, j, hj => hS j hj
 | i + 1, S, hS, j, hj => by
  unfold ancGo at hj
  refine anc_ok hc i ?_ j hj
  cases hb : memN S i with
  | false => rw [cond_false]; exact hS
  | true =>
   rw [cond_true]
   have hi := hS i (memN_ok hb)
   refine ons_ok ?_ hS
   intro e he hbd
   unfold afts at he
   split at he
   ·next o ho => exact hc i o ho hi e (by simpa using he) hbd
   ·cases he
theorem anc_sub {ops : Array Oper} : ∀ (i : Nat) {S : List Nat}, ∀ j ∈ S, j ∈ ancGo ops i S
 | 0, _, j, hj => hj
 | i + 1, S, j, hj => by
  unfold ancGo
  refine anc_sub i j ?_
  cases memN S i with
  | false => exact hj
  | true =>
   rw [cond_true]
   generalize afts ops i = L
   induction L with
   | nil => exact hj
   | cons e L ih =>
    unfold ons
    cases Region.binds .any e with
    | true => exact List.mem_cons_of_mem _ ih
    | false => exact ih
def dropE (drop : List Nat) : List EntC → List EntC
 | [] => []
 | ⟨k, s, ks, c, q, m⟩ :: ts => bif memN drop k then dropE drop ts else ⟨k, s, ks, c, q, m⟩ :: dropE drop ts
theorem dropE_ok {drop : List Nat} : ∀ {es : List EntC} {t : EntC}, t ∈ dropE drop es → t ∈ es ∧ memN drop t.op = false
 | u :: us, t, h => by
  unfold dropE at h
  cases hb : memN drop u.op with
  | true => rw [hb, cond_true] at h; exact ⟨List.mem_cons_of_mem _ (dropE_ok h).1, (dropE_ok h).2⟩
  | false =>
   rw [hb, cond_false] at h
   rcases List.mem_cons.1 h with rfl | h
   ·exact ⟨List.mem_cons_self, hb⟩
   ·exact ⟨List.mem_cons_of_mem _ (dropE_ok h).1, (dropE_ok h).2⟩
theorem dropE_in {drop : List Nat} : ∀ {es : List EntC} {t : EntC}, t ∈ es → memN drop t.op = true ∨ t ∈ dropE drop es
 | u :: us, t, h => by
  unfold dropE
  rcases List.mem_cons.1 h with rfl | h
  ·cases hb : memN drop t.op with
   | true => exact .inl rfl
   | false => rw [cond_false]; exact .inr List.mem_cons_self
  ·rcases dropE_in (drop := drop) h with h | h
   ·exact .inl h
   ·cases hb : memN drop u.op with
    | true => rw [cond_true]; exact .inr h
    | false => rw [cond_false]; exact .inr (List.mem_cons_of_mem _ h)
def Keeps (w w' : World) : List EntC → Prop
 | [] => True
 | ⟨_, _, _, c, q, _⟩ :: ts => match c with
  | some _ => Keeps w w' ts
  | none => (∀ u, q u w → q u w') ∧ Keeps w w' ts
theorem Keeps.get {w w' : World} : ∀ {es : List EntC}, Keeps w w' es → ∀ t ∈ es, ∀ u, t.e.p u w → t.e.p u w'
 | t :: ts, h, u, hu, v, hv => by
  unfold Keeps at h
  rcases List.mem_cons.1 hu with rfl | hu
  ·cases hc : u.c with
   | some x => simp only [EntC.e, hc] at hv ⊢; exact hv
   | none =>
    rw [hc] at h
    simp only [EntC.e, hc] at hv ⊢
    exact h.1 v hv
  ·split at h
   ·exact Keeps.get h u hu v hv
   ·exact Keeps.get h.2 u hu v hv
theorem StabAll.keeps {w w' : World} (hb : Below w.heap.size w w') : ∀ {es : List EntC}, StabAll es → Keeps w w' es
 | [], _ => trivial
 | t :: ts, h => by
  unfold StabAll at h
  unfold Keeps
  cases hc : t.c with
  | some v => rw [hc] at h; exact StabAll.keeps hb h
  | none =>
   rw [hc] at h
   exact ⟨fun u hu => h.1 u w w' hb hu, StabAll.keeps hb h.2⟩
theorem run_app {P : Program} {o : Oper} {a : Act} {w : World} {s x : Operand} {t : TypeId} (ho : o.op = .call { callee := .builtin .append, args := #[s, x], argTypes := #[t, t] }) {base : Nat} {e : TypeId} {z : Value} {size bytes : Nat} (ht : P.underlying t = some (.slice e)) (hi : (P.info? e).map (fun i => (i.zero, i.size, i.bytes)) = some (some z, size, bytes)) (hzs : z.cells.size = size) (hsz : 0 < size)
  {v : Value} {n : Nat} {xs : List Value} (hs : a.eval s = v) (hown : w.ownsRow base e size v n xs) {A : Option Addr} {m c : Nat} {ys : List Value} (hx : a.eval x = .slice A m c) (hr : Reads w w.heap.size size A m ys) (h1 : ∀ u ∈ ys, u.oneCell' = true) (hn : n + m ≤ maxLen) (hb : (n + m) * bytes ≤ 140737488355328) (hbase : base ≤ w.heap.size) :
  ∃ A' c' w', (execOp a.eval o).run P w = .ok (.value (.slice A' (n + m) c')) w' ∧ w'.ownsRow base e size (.slice A' (n + m) c') (n + m) (xs ++ ys) ∧ w.grownBy w' v.ownBlock := by
 obtain ⟨A', c', w', hrun, h2, h3⟩ := run_append_read (P := P) w base t o.type e z size bytes ht hi hzs hsz v n xs hown w.heap.size A m c ys hr h1 hn hb hbase
 refine ⟨A', c', w', ?_, h2, h3⟩
 unfold execOp
 simp only [ho, resolve, invoke, builtin, Sem.run_bind, Sem.run_pure, Result.andThen_ok, List.map_toArray, List.map_cons, List.map_nil, hs, hx, hrun]
section
variable {ops : Array Oper} {Q : Exit → Act → World → Prop} {n : Nat} {l fixed : List (Nat × Value)} {F : World → Prop} {es : List EntC} {done : List Nat}
def LightAll (ops : Array Oper) (Q : Exit → Act → World → Prop) (n : Nat) (fixed : List (Nat × Value)) (F : World → Prop) (es : List EntC) (done : List Nat) : List EntC → Prop
 | [] => True
 | ⟨k, s, ks, c, q, m⟩ :: ts => bif memN done k then LightAll ops Q n fixed F es done ts else match c, m with
  | some v, false => PureE ops Q n (fixed ++ knownE (afts ops k) es) F k s v ∧ LightAll ops Q n fixed F es done ts
  | _, _ => HeavyE ops Q n fixed F es ⟨k, s, ks, c, q, m⟩ ∧ LightAll ops Q n fixed F es done ts
def St (ops : Array Oper) (Q : Exit → Act → World → Prop) (n : Nat) (fixed : List (Nat × Value)) (es : List EntC) (F : World → Prop) (done : List Nat) : Prop :=
 ∀ (fuel : Nat) (listed : Array Bool) (a : Act) (w : World), listed.size = ops.size → listed.toList.count false ≤ fuel → Closed .any ops listed → (∀ j, listed.getD j false = true → j ∈ done ∨ ∃ t ∈ es, t.op = j) → (∀ j ∈ done, listed.getD j false = true) → InvB n fixed (es.map EntC.e) F listed a w →
  wpAny Tryz.prog .any ops Q fuel listed a w
def stB (ops : Array Oper) (n : Nat) (fixed : List (Nat × Value)) (es : List EntC) (done : List Nat) (h : Nat) : Bool :=
 fitsB n fixed (es.map EntC.e) && (es.all (fun t => t.kill.isEmpty && Nat.blt t.op ops.size) && (!memN done h && (es.all (fun t => t.op != h) && (List.range ops.size).all (fun k => memN done k || (es.any (fun t => t.op == k) || (Nat.beq k h || (afts ops k).any (fun e => Region.binds .any e && (!memN done e.on && es.all (fun t => t.op != e.on)))))))))
theorem light_at : ∀ {ts : List EntC}, LightAll ops Q n fixed F es done ts → ∀ t ∈ ts, t.op ∉ done → (∃ v, t.c = some v ∧ t.arm = false ∧ PureE ops Q n (fixed ++ knownE (afts ops t.op) es) F t.op t.slot v) ∨ (plainB t = false ∧ HeavyE ops Q n fixed F es t)
 | u :: us, h, t, ht, hd => by
  unfold LightAll at h
  rcases List.mem_cons.1 ht with rfl | ht
  ·have hm : memN done t.op = false := by
    cases hb : memN done t.op with
    | false => rfl
    | true => exact absurd (memN_ok hb) hd
   rw [hm, cond_false] at h
   split at h
   ·next h1 h2 => exact .inl ⟨_, h1, h2, h.1⟩
   ·next h1 =>
    refine .inr ⟨?_, h.1⟩
    unfold plainB
    cases hc : t.c with
    | none => rfl
    | some v =>
     cases hm : t.arm with
     | true => rfl
     | false => exact (h1 v hc hm).elim
  ·cases hb : memN done u.op with
   | true => rw [hb, cond_true] at h; exact light_at h t ht hd
   | false =>
    rw [hb, cond_false] at h
    split at h
    ·exact light_at h.2 t ht hd
    ·exact light_at h.2 t ht hd
theorem not_ran {listed : Array Bool} {j : Nat} (h : ¬ listed.getD j false = true) : listed.getD j false = false := by
 cases hb : listed.getD j false with
 | false => rfl
 | true => exact absurd hb h
theorem st_light (hfit : fitsB n fixed (es.map EntC.e) = true) (hkill : es.all (fun t => t.kill.isEmpty) = true) (hN : ops.size ≤ 1000) (hF : es.all plainB = true ∨ ∀ w w', F w → Below w.heap.size w w' → F w') (hstab : StabAll es) (hl : LightAll ops Q n fixed F es done es) {fuel : Nat} {listed : Array Bool} {a : Act} {w : World} {i : Nat} {o : Oper}
  (ih : ∀ (listed : Array Bool) (a : Act) (w : World), listed.size = ops.size → listed.toList.count false ≤ fuel → Closed .any ops listed → (∀ j, listed.getD j false = true → j ∈ done ∨ ∃ t ∈ es, t.op = j) → (∀ j ∈ done, listed.getD j false = true) → InvB n fixed (es.map EntC.e) F listed a w → wpAny Tryz.prog .any ops Q fuel listed a w)
  (hs : listed.size = ops.size) (hc : listed.toList.count false ≤ fuel + 1) (hcl : Closed .any ops listed) (hsub : ∀ j, listed.getD j false = true → j ∈ done ∨ ∃ t ∈ es, t.op = j) (hdn : ∀ j ∈ done, listed.getD j false = true) (hI : InvB n fixed (es.map EntC.e) F listed a w)
  (h0 : listed.getD i false = false) (ho : ops[i]? = some o) (hd : ∀ e ∈ o.after, Region.binds .any e = true → listed.getD e.on false = true) (hm : ∃ t ∈ es, t.op = i) : wpOp Tryz.prog ops Q i (fun a' w' => wpAny Tryz.prog .any ops Q fuel (listed.setIfInBounds i true) a' w') a w := by
 obtain ⟨t, ht, rfl⟩ := hm
 have hi : t.op < listed.size := by rw [hs]; exact (Array.getElem?_eq_some_iff.1 ho).1
 have h1 : listed.toList[t.op]? = some false := by
  simp only [Array.getD_eq_getD_getElem?, Array.getElem?_eq_getElem hi, Option.getD_some] at h0
  simp [hi, h0]
 have hcs := count_set _ _ h1
 have hnd : t.op ∉ done := fun h => by rw [hdn _ h] at h0; cases h0
 have hkk : afts ops t.op = o.after.toList := by unfold afts; rw [ho]
 have HH := Has.of hI.sz hI.df (AllEv.app hI.fx (known_ok hI hd fun _ h => h))
 have hsl : t.e.slot = t.slot := by unfold EntC.e; split <;> rfl
 have next : ∀ v w', t.e.p v w' → F w' → AllSt t.op listed w w' (es.map EntC.e) → wpAny Tryz.prog .any ops Q fuel (listed.setIfInBounds t.op true) (a.put (some t.slot) v) w' := by
  intro v w' hp hFw hst
  have hK := hI.put (Wp' := F) hfit t.e (List.mem_map_of_mem ht) (by rw [EntC.e_op]; exact hi) (by rw [hs]; exact hN) v hp hFw (by rw [EntC.e_op]; exact hst)
  rw [EntC.e_op, hsl] at hK
  refine ih _ _ w' (by simpa using hs) ?_ ?_ ?_ (fun j hj => ran_mono (hdn j hj)) hK
  ·rw [Array.toList_setIfInBounds]; omega
  ·intro j oj hoj hj e he hb
   rcases getD_set hj with e2 | hj
   ·subst e2
    rw [ho] at hoj
    injection hoj with hoj
    subst hoj
    exact ran_mono (hd e he hb)
   ·exact ran_mono (hcl j oj hoj hj e he hb)
  ·intro j hj
   rcases getD_set hj with e2 | hj
   ·exact .inr ⟨t, ht, e2.symm⟩
   ·exact hsub j hj
 rcases light_at hl t ht hnd with ⟨v, hv, _, hp⟩ | ⟨hpl, hp⟩
 ·rw [hkk] at hp
  exact hp _ a w HH hI.wp (next v w (by simp only [EntC.e, hv]) hI.wp AllSt.same)
 ·unfold HeavyE at hp
  rw [hkk] at hp
  have hF : ∀ w w', F w → Below w.heap.size w w' → F w' := by
   rcases hF with h | h
   ·rw [List.all_eq_true.1 h t ht] at hpl; cases hpl
   ·exact h
  exact hp _ a w HH (knownR_ok hI hkill hd fun _ h => h) hI.wp fun v w' hpv hb => next v w' hpv (hF _ _ hI.wp hb) (StabAll.all hb hstab).all
def Nx (ops : Array Oper) (Q : Exit → Act → World → Prop) (n : Nat) (fixed : List (Nat × Value)) (es : List EntC) (done : List Nat) (h s : Nat) (v : Value) (w w' : World) : Prop :=
 ∃ (hE : EntC) (new : List EntC) (drop : List Nat) (F' : World → Prop) (fixed' : List (Nat × Value)), (∀ a, AllEv a fixed → AllEv a fixed') ∧ (hE.op = h ∧ hE.slot = s ∧ hE.e.p v w' ∧ hE.kill = []) ∧ F' w' ∧ Keeps w w' (dropE drop es) ∧ (fitsB n fixed' ((hE :: (new ++ dropE drop es)).map EntC.e) && (drop.all (fun k => memN (doneN ops h done) k) && new.all (fun t => Nat.blt t.op ops.size && (!memN done t.op && (es.all (fun u => u.op != t.op) && t.op != h))))) = true ∧
  St ops Q n fixed' (hE :: (new ++ dropE drop es)) F' (doneN ops h done)
def Pins (a : Act) (drop : List Nat) : List EntC → Prop
 | [] => True
 | ⟨k, s, ks, c, _, _⟩ :: ts => (ks = [] ∧ memN drop k = true ∧ ∃ v, c = some v ∧ a.eval (.tmp s) = v) ∧ Pins a drop ts
theorem Pins.get {a : Act} {drop : List Nat} : ∀ {ts : List EntC}, Pins a drop ts → ∀ t ∈ ts, t.kill = [] ∧ memN drop t.op = true ∧ ∃ v, t.c = some v ∧ a.eval (.tmp t.slot) = v
 | u :: us, h, t, ht => by
  rcases List.mem_cons.1 ht with rfl | ht
  ·exact h.1
  ·exact Pins.get h.2 t ht
def Nx0 (ops : Array Oper) (Q : Exit → Act → World → Prop) (n : Nat) (fixed : List (Nat × Value)) (es : List EntC) (done : List Nat) (h : Nat) (a : Act) (w w' : World) : Prop :=
 ∃ (pins new : List EntC) (drop : List Nat) (F' : World → Prop), F' w' ∧ Keeps w w' (dropE drop es) ∧ Pins a drop pins ∧ (fitsB n fixed ((pins ++ (new ++ dropE drop es)).map EntC.e) && (drop.all (fun k => memN (doneN ops h done) k) && new.all (fun t => Nat.blt t.op ops.size && (!memN done t.op && (es.all (fun u => u.op != t.op) && t.op != h))))) = true ∧
  St ops Q n fixed (pins ++ (new ++ dropE drop es)) F' (doneN ops h done)
theorem fits_at {es : List EntC} (hf : fitsB n fixed (es.map EntC.e) = true) : (∀ t ∈ es, t.slot < n ∧ fixed.all (fun f => f.1 != t.slot) = true) ∧ ∀ u ∈ es, ∀ t ∈ es, u.kill = [] → t.op < 1000 → u.op = t.op ∨ u.slot ≠ t.slot := by
 simp only [fitsB, Bool.and_eq_true] at hf
 obtain ⟨⟨hf, hn⟩, _⟩ := hf
 have hs : ∀ t : EntC, t.e.slot = t.slot := fun t => by unfold EntC.e; split <;> rfl
 have hk : ∀ t : EntC, t.kill = [] → t.e.kill = [] := fun t h => by unfold EntC.e; split <;> simp [h]
 refine ⟨fun t ht => ?_, fun u hu t ht hku hN => ?_⟩
 ·have := List.all_eq_true.1 hf t.e (List.mem_map_of_mem ht)
  rw [hs] at this
  simpa using this
 ·have := List.all_eq_true.1 (List.all_eq_true.1 hn u.e (List.mem_map_of_mem hu)) t.e (List.mem_map_of_mem ht)
  rw [EntC.e_op, EntC.e_op, hs, hs, hk u hku] at this
  simp only [Bool.or_eq_true, beq_iff_eq, bne_iff_ne, List.contains_nil, Bool.false_eq_true, decide_eq_true_eq, false_or] at this
  rcases this with h | h | h
  ·exact .inl h
  ·exact .inr h
  ·omega
theorem st_go (h : Nat) (hlt : h < ops.size) (hback : ∀ (i : Nat) (o : Oper), ops[i]? = some o → ∀ e ∈ o.after, Region.binds .any e = true → e.on < i) (hB : stB ops n fixed es done h = true) (hN : Nat.ble ops.size 1000 = true) (hF : es.all plainB = true ∨ ∀ w w', F w → Below w.heap.size w w' → F w') (hstab : StabAll es) (hl : LightAll ops Q n fixed F es done es)
  (hh : ∀ (o : Oper) (K : Act → World → Prop) (a : Act) (w : World), ops[h]? = some o → Has a n (fixed ++ knownE (afts ops h) es) → KnownR (afts ops h) a w es → F w → (∀ s v w', o.dst = some s → Nx ops Q n fixed es done h s v w w' → K (a.put (some s) v) w') → (∀ w', o.dst = none → Nx0 ops Q n fixed es done h a w w' → K a w') → wpOp Tryz.prog ops Q h K a w) :
  St ops Q n fixed es F done := by
 simp only [stB, Bool.and_eq_true] at hB
 obtain ⟨hfit, hall, hhd, hhe, hblk⟩ := hB
 have hN : ops.size ≤ 1000 := by simpa using hN
 have hkill : es.all (fun t => t.kill.isEmpty) = true := List.all_eq_true.2 fun t ht => by
  have := List.all_eq_true.1 hall t ht
  simp only [Bool.and_eq_true] at this
  exact this.1
 have hopl : ∀ t ∈ es, t.op < ops.size := fun t ht => by
  have := List.all_eq_true.1 hall t ht
  simp only [Bool.and_eq_true] at this
  simpa [Nat.blt_eq] using this.2
 have hhd : h ∉ done := fun hm => by rw [memN_of hm] at hhd; cases hhd
 have hhe : ∀ t ∈ es, t.op ≠ h := fun t ht => by simpa using List.all_eq_true.1 hhe t ht
 intro fuel
 induction fuel with
 | zero =>
  intro listed a w hs hc hcl hsub hdn hI
  exfalso
  have hnl : listed.getD h false = false := not_ran fun hl' => by
   rcases hsub h hl' with h1 | ⟨t, ht, h1⟩
   ·exact hhd h1
   ·exact hhe t ht h1
  have hi : h < listed.size := by omega
  have h1 : listed.toList[h]? = some false := by
   simp only [Array.getD_eq_getD_getElem?, Array.getElem?_eq_getElem hi, Option.getD_some] at hnl
   simp [hi, hnl]
  have := count_set _ _ h1
  omega
 | succ fuel ih =>
  intro listed a w hs hc hcl hsub hdn hI
  have hnl : listed.getD h false = false := not_ran fun hl' => by
   rcases hsub h hl' with h1 | ⟨t, ht, h1⟩
   ·exact hhd h1
   ·exact hhe t ht h1
  
  have hrdy : ∀ (i : Nat) (o : Oper), ops[i]? = some o → listed.getD i false = false → (∀ e ∈ o.after, Region.binds .any e = true → listed.getD e.on false = true) → i = h ∨ ∃ t ∈ es, t.op = i := by
   intro i o ho h0 hd
   have hi : i < ops.size := (Array.getElem?_eq_some_iff.1 ho).1
   have := List.all_eq_true.1 hblk i (List.mem_range.2 hi)
   simp only [Bool.or_eq_true] at this
   rcases this with h1 | h1 | h1 | h1
   ·rw [hdn i (memN_ok h1)] at h0; cases h0
   ·obtain ⟨t, ht, he⟩ := List.any_eq_true.1 h1
    exact .inr ⟨t, ht, by simpa using he⟩
   ·exact .inl (Nat.eq_of_beq_eq_true h1)
   ·exfalso
    obtain ⟨e, he, h2⟩ := List.any_eq_true.1 h1
    simp only [Bool.and_eq_true, Bool.not_eq_true'] at h2
    unfold afts at he
    rw [ho] at he
    rcases hsub e.on (hd e (by simpa using he) h2.1) with h3 | ⟨t, ht, h3⟩
    ·rw [memN_of h3] at h2; exact absurd h2.2.1 (by decide)
    ·have := List.all_eq_true.1 h2.2.2 t ht
     simp [h3] at this
  have step : ∀ (i : Nat) (o : Oper), ops[i]? = some o → listed.getD i false = false → (∀ e ∈ o.after, Region.binds .any e = true → listed.getD e.on false = true) → wpOp Tryz.prog ops Q i (fun a' w' => wpAny Tryz.prog .any ops Q fuel (listed.setIfInBounds i true) a' w') a w := by
   intro i o ho h0 hd
   rcases hrdy i o ho h0 hd with rfl | hm
   ·have hi : i < listed.size := by omega
    have h1 : listed.toList[i]? = some false := by
     simp only [Array.getD_eq_getD_getElem?, Array.getElem?_eq_getElem hi, Option.getD_some] at h0
     simp [hi, h0]
    have hcs := count_set _ _ h1
    have hcount : (listed.setIfInBounds i true).toList.count false ≤ fuel := by rw [Array.toList_setIfInBounds]; omega
    have hcl' : Closed .any ops (listed.setIfInBounds i true) := by
     intro j oj hoj hj e he hb
     rcases getD_set hj with e2 | hj
     ·subst e2
      rw [ho] at hoj
      injection hoj with hoj
      subst hoj
      exact ran_mono (hd e he hb)
     ·exact ran_mono (hcl j oj hoj hj e he hb)
    have hdn' : ∀ j ∈ doneN ops i done, (listed.setIfInBounds i true).getD j false = true := by
     refine anc_ok hcl' _ ?_
     intro j hj
     rcases List.mem_cons.1 hj with rfl | hj
     ·exact ran_same listed hi
     ·exact ran_mono (hdn j hj)
    have hsize : (listed.setIfInBounds i true).size = ops.size := by simpa using hs
    have hsub' : ∀ {drop : List Nat} {es' : List EntC}, (∀ t ∈ es', ∀ u, u = t → True) → (∀ t ∈ dropE drop es, t ∈ es') → drop.all (fun k => memN (doneN ops i done) k) = true → ∀ j, (listed.setIfInBounds i true).getD j false = true → j ∈ doneN ops i done ∨ ∃ t ∈ es', t.op = j := by
     intro drop es' _ hin hdr j hj
     rcases getD_set hj with e2 | hj
     ·subst e2; exact .inl (anc_sub _ _ List.mem_cons_self)
     ·rcases hsub j hj with h3 | ⟨t, ht, h3⟩
      ·exact .inl (anc_sub _ _ (List.mem_cons_of_mem _ h3))
      ·rcases dropE_in (drop := drop) ht with h4 | h4
       ·rw [← h3]
        exact .inl (memN_ok (List.all_eq_true.1 hdr _ (memN_ok h4)))
       ·exact .inr ⟨t, hin t h4, h3⟩
    refine hh o _ a w ho ?_ ?_ hI.wp ?_ ?_
    ·have := known_ok hI hd (ts := es) fun _ h => h
     have hkk : afts ops i = o.after.toList := by unfold afts; rw [ho]
     rw [hkk]
     exact Has.of hI.sz hI.df (AllEv.app hI.fx this)
    ·have hkk : afts ops i = o.after.toList := by unfold afts; rw [ho]
     rw [hkk]
     exact knownR_ok hI hkill hd fun _ h => h
    ·rintro s v w' hdst ⟨hE, new, drop, F', fixed', hfx, ⟨rfl, rfl, hp, hke⟩, hFw, hkp, hchk, hSt⟩
     simp only [Bool.and_eq_true] at hchk
     obtain ⟨hfit', hdr, hnew⟩ := hchk
     obtain ⟨hf1, hf2⟩ := fits_at hfit'
     refine hSt fuel _ _ w' hsize hcount hcl' (hsub' (fun _ _ _ _ => trivial) (fun t ht => List.mem_cons_of_mem _ (List.mem_append_right _ ht)) hdr) hdn' ?_
     have hm0 := hf1 hE List.mem_cons_self
     refine ⟨by rw [Act.size_put, hI.sz], by rw [Act.defers_put', hI.df], (hfx _ hI.fx).put hm0.2, fun u hu hlu hku => ?_, hFw⟩
     obtain ⟨t, ht, rfl⟩ := List.mem_map.1 hu
     rw [EntC.e_op, hsize] at hlu
     have hsl : t.e.slot = t.slot := by unfold EntC.e; split <;> rfl
     rw [hsl]
     rcases List.mem_cons.1 ht with rfl | ht
     ·rw [Act.eval_put_same _ _ _ (by rw [hI.sz]; exact hm0.1)]
      exact hp
     ·rcases List.mem_append.1 ht with ht' | ht'
      ·exfalso
       have := List.all_eq_true.1 hnew t ht'
       simp only [Bool.and_eq_true, Bool.not_eq_true', bne_iff_ne] at this
       obtain ⟨n0, n1, n2, n3⟩ := this
       have n0 : t.op < ops.size := by simpa [Nat.blt_eq] using n0
       rcases hlu with hlu | hlu
       ·omega
       ·rcases getD_set hlu with e2 | hlu
        ·exact n3 e2
        ·rcases hsub _ hlu with h3 | ⟨u, hu, h3⟩
         ·rw [memN_of h3] at n1; cases n1
         ·have := List.all_eq_true.1 n2 u hu
          simp [h3] at this
      ·obtain ⟨hte, _⟩ := dropE_ok ht'
       have hto := hopl t hte
       have hlt' : listed.getD t.op false = true := by
        rcases hlu with hlu | hlu
        ·omega
        ·rcases getD_set hlu with e2 | hlu
         ·exact absurd e2 (hhe t hte)
         ·exact hlu
       have hne : hE.slot ≠ t.slot := by
        have hkt : t.kill = [] := by simpa using List.all_eq_true.1 hkill t hte
        rcases hf2 t (List.mem_cons_of_mem _ ht) hE List.mem_cons_self hkt (by omega) with h3 | h3
        ·exact absurd h3 (hhe t hte)
        ·exact fun e => h3 e.symm
       rw [Act.eval_put_ne _ _ _ _ hne]
       have hold := hI.vs t.e (List.mem_map_of_mem hte) (.inr (by rw [EntC.e_op]; exact hlt')) (by
        have hkt : t.kill = [] := by simpa using List.all_eq_true.1 hkill t hte
        have : t.e.kill = [] := by unfold EntC.e; split <;> simp [hkt]
        rw [this]; trivial)
       rw [hsl] at hold
       exact hkp.get t ht' _ hold
    ·rintro w' hdst ⟨pins, new, drop, F', hFw, hkp, hpin, hchk, hSt⟩
     simp only [Bool.and_eq_true] at hchk
     obtain ⟨hfit', hdr, hnew⟩ := hchk
     refine hSt fuel _ _ w' hsize hcount hcl' (hsub' (fun _ _ _ _ => trivial) (fun t ht => List.mem_append_right _ (List.mem_append_right _ ht)) hdr) hdn' ?_
     refine ⟨hI.sz, hI.df, hI.fx, fun u hu hlu hku => ?_, hFw⟩
     obtain ⟨t, ht, rfl⟩ := List.mem_map.1 hu
     rw [EntC.e_op, hsize] at hlu
     have hsl : t.e.slot = t.slot := by unfold EntC.e; split <;> rfl
     rw [hsl]
     rcases List.mem_append.1 ht with ht' | ht
     ·obtain ⟨_, _, v, hv, he⟩ := hpin.get t ht'
      simp only [EntC.e, hv]
      exact he
     rcases List.mem_append.1 ht with ht' | ht'
     ·exfalso
      have := List.all_eq_true.1 hnew t ht'
      simp only [Bool.and_eq_true, Bool.not_eq_true', bne_iff_ne] at this
      obtain ⟨n0, n1, n2, n3⟩ := this
      have n0 : t.op < ops.size := by simpa [Nat.blt_eq] using n0
      rcases hlu with hlu | hlu
      ·omega
      ·rcases getD_set hlu with e2 | hlu
       ·exact n3 e2
       ·rcases hsub _ hlu with h3 | ⟨u, hu, h3⟩
        ·rw [memN_of h3] at n1; cases n1
        ·have := List.all_eq_true.1 n2 u hu
         simp [h3] at this
     ·obtain ⟨hte, _⟩ := dropE_ok ht'
      have hto := hopl t hte
      have hlt' : listed.getD t.op false = true := by
       rcases hlu with hlu | hlu
       ·omega
       ·rcases getD_set hlu with e2 | hlu
        ·exact absurd e2 (hhe t hte)
        ·exact hlu
      have hold := hI.vs t.e (List.mem_map_of_mem hte) (.inr (by rw [EntC.e_op]; exact hlt')) (by
       have hkt : t.kill = [] := by simpa using List.all_eq_true.1 hkill t hte
       have : t.e.kill = [] := by unfold EntC.e; split <;> simp [hkt]
       rw [this]; trivial)
      rw [hsl] at hold
      exact hkp.get t ht' _ hold
   ·exact st_light hfit hkill hN hF hstab hl (fun listed a w => ih listed a w) hs hc hcl hsub hdn hI h0 ho hd hm
  refine ⟨fun hnil => ?_, fun i hm => ?_⟩
  ·rw [all_listed hback hs hnil h hlt] at hnl; cases hnl
  ·obtain ⟨h0, o, ho, hd⟩ := mem_ready.1 hm
   have hi : i < listed.size := by
    have := (Array.getElem?_eq_some_iff.1 ho).1
    omega
   refine step i o ho ?_ hd
   simp only [Array.getD_eq_getD_getElem?, Array.getElem?_eq_getElem hi, Option.getD_some] at h0 ⊢
   exact h0
abbrev backB (ops : Array Oper) : Bool := (List.range ops.size).all (fun i => match ops[i]? with | some o => o.after.all (fun e => !Region.binds .any e || decide (e.on < i)) | none => true)
theorem Has.sg {a : Act} {w : World} {c : Code} {id : Nat} {Q' : Exit → Act → World → Prop} (H : Has a n l) (F : World → Prop) (hw : F w.drew) (ss : List Nat) (es : List EntC) (hc : peel Tryz.prog c Q' = (.region id ops true, Q)) (hSt : St ops Q n fixed es F []) (hs : sel l ss = some fixed := by rfl)
  (hel : es.all (fun t => Nat.blt t.op ops.size) = true := by kernel_rfl) (hm : Tryz.prog.follows .mixedOrders = true := by kernel_rfl) : c.wp Tryz.prog Q' a w := by
 refine peel_wp c Q' ?_
 rw [hc]
 refine wp_region_any hm (hSt ops.size _ a _ (by simp) (by simp) ?_ ?_ (fun j hj => by cases hj) ⟨H.sz, H.df, sel_ok H hs, ?_, hw⟩)
 ·intro i o _ h
  rw [none_ran] at h
  cases h
 ·intro j hj
  rw [none_ran] at hj
  cases hj
 ·intro u hu hl _
  obtain ⟨t, ht, rfl⟩ := List.mem_map.1 hu
  rw [EntC.e_op] at hl
  have : t.op < ops.size := by simpa [Nat.blt_eq] using List.all_eq_true.1 hel t ht
  rcases hl with hl | hl
  ·rw [Array.size_replicate] at hl; omega
  ·rw [none_ran] at hl; cases hl
abbrev nxB (ops : Array Oper) (n : Nat) (fixed : List (Nat × Value)) (es : List EntC) (done : List Nat) (h : Nat) (new : List EntC) (drop : List Nat) (hE : List EntC) : Bool :=
 fitsB n fixed ((hE ++ (new ++ dropE drop es)).map EntC.e) && (drop.all (fun k => memN (doneN ops h done) k) && new.all (fun t => Nat.blt t.op ops.size && (!memN done t.op && (es.all (fun u => u.op != t.op) && t.op != h))))
section
variable {h d : Nat} {v : Value} {w w' : World} {o : Oper}
theorem nx (F' : World → Prop) (new : List EntC) (drop : List Nat) (hF : F' w') (hSt : St ops Q n fixed (ec h d v :: (new ++ dropE drop es)) F' (doneN ops h done)) (hk : Keeps w w' (dropE drop es) := by exact trivial) (hc : nxB ops n fixed es done h new drop [ec h d v] = true := by kernel_rfl) : Nx ops Q n fixed es done h d v w w' :=
 ⟨ec h d v, new, drop, F', fixed, fun _ h => h, ⟨rfl, rfl, rfl, rfl⟩, hF, hk, hc, hSt⟩
theorem nxp {a : Act} (F' : World → Prop) (pins new : List EntC) (drop : List Nat) (hF : F' w') (hp : Pins a drop pins) (hSt : St ops Q n fixed (pins ++ (new ++ dropE drop es)) F' (doneN ops h done)) (hk : Keeps w w' (dropE drop es) := by exact trivial) (hc : nxB ops n fixed es done h new drop pins = true := by kernel_rfl) : Nx0 ops Q n fixed es done h a w w' :=
 ⟨pins, new, drop, F', hF, hk, hp, hc, hSt⟩
theorem nx0 {a : Act} (F' : World → Prop) (new : List EntC) (drop : List Nat) (hF : F' w') (hSt : St ops Q n fixed (new ++ dropE drop es) F' (doneN ops h done)) (hk : Keeps w w' (dropE drop es) := by exact trivial) (hc : nxB ops n fixed es done h new drop [] = true := by kernel_rfl) : Nx0 ops Q n fixed es done h a w w' :=
 nxp F' [] new drop hF trivial hSt hk hc
theorem St.call (h : Nat) {f : FuncId} {xs : Array Operand} {ats : Array TypeId} {vs : List Value} {R : World → Value → World → Prop} (hl : LightAll ops Q n fixed F es done es) (hc : ∀ w, F w → Calls Tryz.prog f vs.toArray w fun e w' => ∃ v, e = .returned v ∧ R w v w') (hn : ∀ w v w', F w → R w v w' → Nx ops Q n fixed es done h d v w w')
  (ho : ops[h]? = some o := by rfl) (hp : o.op = .call { callee := .value (.func f), args := xs, argTypes := ats } := by rfl) (hd : o.dst = some d := by rfl) (hg : okG ops (fixed ++ knownE (afts ops h) es) o = true := by rfl) (hx : evLs (fixed ++ knownE (afts ops h) es) xs.toList = some vs := by rfl)
  (hen : ∀ (args : Array Value) (w : World), (callFunc f args).run Tryz.prog w = .ok (.enter f args) w := by exact fun _ _ => by kernel_rfl) (hB : stB ops n fixed es done h = true := by kernel_rfl) (hN : Nat.ble ops.size 1000 = true := by kernel_rfl) (hback : backB ops = true := by kernel_rfl)
  (hF : es.all plainB = true ∨ ∀ w w', F w → Below w.heap.size w w' → F w' := by exact .inl rfl) (hst : StabAll es := by exact trivial) : St ops Q n fixed es F done := by
 refine st_go h (Array.getElem?_eq_some_iff.1 ho).1 (back_of hback) hB hN hF hst hl ?_
 intro o' K a w ho' H _ hFw hK _
 rw [ho] at ho'
 injection ho' with ho'
 subst ho'
 exact wpOp_enter ho (okG_w H hg) d hd f _ (run_callH H hp hx hen) _ (hc w hFw) fun v w' hR => hK d v w' hd (hn w v w' hFw hR)
theorem St.val (h : Nat) (hl : LightAll ops Q n fixed F es done es) (hrun : ∀ a w, Has a n (fixed ++ knownE (afts ops h) es) → KnownR (afts ops h) a w es → F w → ∃ v w', (execOp a.eval o).run Tryz.prog w = .ok (.value v) w' ∧ Nx ops Q n fixed es done h d v w w')
  (ho : ops[h]? = some o := by rfl) (hd : o.dst = some d := by rfl) (hg : okG ops (fixed ++ knownE (afts ops h) es) o = true := by rfl) (hB : stB ops n fixed es done h = true := by kernel_rfl) (hN : Nat.ble ops.size 1000 = true := by kernel_rfl) (hback : backB ops = true := by kernel_rfl)
  (hF : es.all plainB = true ∨ ∀ w w', F w → Below w.heap.size w w' → F w' := by exact .inl rfl) (hst : StabAll es := by exact trivial) : St ops Q n fixed es F done := by
 refine st_go h (Array.getElem?_eq_some_iff.1 ho).1 (back_of hback) hB hN hF hst hl ?_
 intro o' K a w ho' H hr hFw hK _
 rw [ho] at ho'
 injection ho' with ho'
 subst ho'
 obtain ⟨v, w', hx, hn⟩ := hrun a w H hr hFw
 exact wpOp_go ho (okG_w H hg) d hd v w' hx (hK d v w' hd hn)
theorem St.app (h : Nat) {s x : Operand} {t e : TypeId} {base size bytes m : Nat} {z : Value} {u : Value} {k c : Nat} {A : Option Addr} {xs ys : List Value} (hi : (Tryz.prog.info? e).map (fun i => (i.zero, i.size, i.bytes)) = some (some z, size, bytes)) (hl : LightAll ops Q n fixed F es done es)
  (hrun : ∀ w, F w → w.ownsRow base e size u k xs ∧ Reads w w.heap.size size A m ys ∧ base ≤ w.heap.size) (h1 : ∀ u ∈ ys, u.oneCell' = true) (hn : k + m ≤ maxLen ∧ (k + m) * bytes ≤ 140737488355328) (hk : ∀ w A' c' w', F w → w'.ownsRow base e size (.slice A' (k + m) c') (k + m) (xs ++ ys) → w.grownBy w' u.ownBlock → Nx ops Q n fixed es done h d (.slice A' (k + m) c') w w')
  (ho : ops[h]? = some o := by rfl) (hp : o.op = .call { callee := .builtin .append, args := #[s, x], argTypes := #[t, t] } := by rfl) (hd : o.dst = some d := by rfl) (ht : Tryz.prog.underlying t = some (.slice e) := by kernel_rfl) (hzs : z.cells.size = size := by rfl) (hsz : 0 < size := by decide) (hg : okG ops (fixed ++ knownE (afts ops h) es) o = true := by rfl)
  (hs : evL (fixed ++ knownE (afts ops h) es) s = some u := by rfl) (hx : evL (fixed ++ knownE (afts ops h) es) x = some (.slice A m c) := by rfl) (hB : stB ops n fixed es done h = true := by kernel_rfl) (hN : Nat.ble ops.size 1000 = true := by kernel_rfl) (hback : backB ops = true := by kernel_rfl)
  (hF : es.all plainB = true ∨ ∀ w w', F w → Below w.heap.size w w' → F w' := by exact .inl rfl) (hst : StabAll es := by exact trivial) : St ops Q n fixed es F done := by
 refine St.val h hl ?_ ho hd hg hB hN hback hF hst
 intro a w H _ hFw
 obtain ⟨r1, r2, r3⟩ := hrun w hFw
 obtain ⟨A', c', w', hr, hO, hgr⟩ := run_app (a := a) hp ht hi hzs hsz (H.ev hs) r1 (H.ev hx) r2 h1 hn.1 hn.2 r3
 exact ⟨_, w', hr, hk w A' c' w' hFw hO hgr⟩
theorem St.sto (h : Nat) (hl : LightAll ops Q n fixed F es done es) (hrun : ∀ a w, Has a n (fixed ++ knownE (afts ops h) es) → KnownR (afts ops h) a w es → F w → ∃ w', (execOp a.eval o).run Tryz.prog w = .ok .skip w' ∧ Nx0 ops Q n fixed es done h a w w')
  (ho : ops[h]? = some o := by rfl) (hd : o.dst = none := by rfl) (hg : okG ops (fixed ++ knownE (afts ops h) es) o = true := by rfl) (hB : stB ops n fixed es done h = true := by kernel_rfl) (hN : Nat.ble ops.size 1000 = true := by kernel_rfl) (hback : backB ops = true := by kernel_rfl)
  (hF : es.all plainB = true ∨ ∀ w w', F w → Below w.heap.size w w' → F w' := by exact .inl rfl) (hst : StabAll es := by exact trivial) : St ops Q n fixed es F done := by
 refine st_go h (Array.getElem?_eq_some_iff.1 ho).1 (back_of hback) hB hN hF hst hl ?_
 intro o' K a w ho' H hr hFw _ hK
 rw [ho] at ho'
 injection ho' with ho'
 subst ho'
 obtain ⟨w', hx, hn⟩ := hrun a w H hr hFw
 exact wpOp_do ho (okG_w H hg) hd w' hx (hK w' hd hn)
end
theorem St.fin (hl : LightAll ops Q n fixed F es done es) (hfin : ∀ (a : Act) (w : World), Has a n (fixed ++ finV es) → FinR a w es → F w → Q .normal a w) (hB : (fitsB n fixed (es.map EntC.e) && (es.all (fun t => t.kill.isEmpty && Nat.blt t.op ops.size) && ((List.range ops.size).all (fun k => memN done k || es.any (fun t => t.op == k)) && Nat.ble ops.size 1000))) = true := by kernel_rfl) (hback : backB ops = true := by kernel_rfl)
  (hF : es.all plainB = true ∨ ∀ w w', F w → Below w.heap.size w w' → F w' := by exact .inl rfl) (hst : StabAll es := by exact trivial) : St ops Q n fixed es F done := by
 simp only [Bool.and_eq_true] at hB
 obtain ⟨hfit, hall, hcov, hN⟩ := hB
 have hN : ops.size ≤ 1000 := by simpa using hN
 have hkill : es.all (fun t => t.kill.isEmpty) = true := List.all_eq_true.2 fun t ht => by
  have := List.all_eq_true.1 hall t ht
  simp only [Bool.and_eq_true] at this
  exact this.1
 have hopl : ∀ t ∈ es, t.op < ops.size := fun t ht => by
  have := List.all_eq_true.1 hall t ht
  simp only [Bool.and_eq_true] at this
  simpa [Nat.blt_eq] using this.2
 have fin : ∀ (listed : Array Bool) (a : Act) (w : World), listed.size = ops.size → Region.ready .any ops listed = [] → InvB n fixed (es.map EntC.e) F listed a w → Q .normal a w := by
  intro listed a w hs hnil hI
  have hall' : ∀ t ∈ es, listed.getD t.op false = true := fun t ht => all_listed (back_of hback) hs hnil t.op (hopl t ht)
  exact hfin a w (Has.of hI.sz hI.df (AllEv.app hI.fx (finV_ok hI hall' fun _ h => h))) (finR_ok hI hkill hall' fun _ h => h) hI.wp
 intro fuel
 induction fuel with
 | zero =>
  intro listed a w hs hc hcl hsub hdn hI
  have hnil : Region.ready .any ops listed = [] := by
   rcases hr : Region.ready .any ops listed with _ | ⟨i, rs⟩
   ·rfl
   ·exfalso
    have hm : i ∈ Region.ready .any ops listed := by rw [hr]; exact List.mem_cons_self
    obtain ⟨h0, o, ho, _⟩ := mem_ready.1 hm
    have hi : i < listed.size := by
     have := (Array.getElem?_eq_some_iff.1 ho).1
     omega
    have h1 : listed.toList[i]? = some false := by
     simp only [Array.getD_eq_getD_getElem?, Array.getElem?_eq_getElem hi, Option.getD_some] at h0
     simp [hi, h0]
    have := count_set _ _ h1
    omega
  exact ⟨hnil, fin listed a w hs hnil hI⟩
 | succ fuel ih =>
  intro listed a w hs hc hcl hsub hdn hI
  refine ⟨fun hnil => fin listed a w hs hnil hI, fun i hm => ?_⟩
  obtain ⟨h0, o, ho, hd⟩ := mem_ready.1 hm
  have hi : i < listed.size := by
   have := (Array.getElem?_eq_some_iff.1 ho).1
   omega
  have h0' : listed.getD i false = false := by
   simp only [Array.getD_eq_getD_getElem?, Array.getElem?_eq_getElem hi, Option.getD_some] at h0 ⊢
   exact h0
  refine st_light hfit hkill hN hF hst hl (fun listed a w => ih listed a w) hs hc hcl hsub hdn hI h0' ho hd ?_
  have := List.all_eq_true.1 hcov i (List.mem_range.2 (by omega))
  simp only [Bool.or_eq_true] at this
  rcases this with h1 | h1
  ·rw [hdn i (memN_ok h1)] at h0'; cases h0'
  ·obtain ⟨t, ht, he⟩ := List.any_eq_true.1 h1
   exact ⟨t, ht, by simpa using he⟩
end
end
section
open Go.RowKit
section
variable {ops : Array Oper} {Q : Exit → Act → World → Prop} {n : Nat} {l : List (Nat × Value)} {F : World → Prop}
def TabAll (ops : Array Oper) (Q : Exit → Act → World → Prop) (n : Nat) (F : World → Prop) : List (Nat × Value) → List EntC → Prop
 | _, [] => True
 | l, ⟨k, s, _ks, c, _q, m⟩ :: ts => match c, m with
  | some v, false => PureE ops Q n l F k s v ∧ TabAll ops Q n F ((s, v) :: l) ts
  | some v, true => HeavyE ops Q n l F [] (eh k s v) ∧ TabAll ops Q n F ((s, v) :: l) ts
  | none, _ => False
def tabV : List (Nat × Value) → List EntC → List (Nat × Value)
 | l, [] => l
 | l, ⟨_, s, _, c, _, _⟩ :: ts => match c with
  | some v => tabV ((s, v) :: l) ts
  | none => l
def tabB (ops : Array Oper) (n : Nat) : Nat → List EntC → Bool
 | i, [] => Nat.beq i ops.size
 | i, t :: ts => Nat.beq t.op i && (Nat.blt t.slot n && tabB ops n (i + 1) ts)
theorem tabB_len : ∀ {ts : List EntC} {i : Nat}, tabB ops n i ts = true → i + ts.length = ops.size
 | [], i, h => Nat.eq_of_beq_eq_true h
 | t :: ts, i, h => by
  simp only [tabB, Bool.and_eq_true] at h
  have := tabB_len h.2.2
  simp only [List.length_cons]
  omega
theorem wpList_of_op {P : Program} {o : Oper} {rest : List Oper} {a : Act} {w : World} {i : Nat} (ho : ops[i]? = some o) (h : wpOp P ops Q i (fun a' w' => wpList P ops Q rest a' w') a w) : wpList P ops Q (o :: rest) a w := by
 simp only [wpOp, ho] at h
 exact h
theorem tab_ok (hk : ∀ w w', F w → Below w.heap.size w w' → F w') : ∀ (ts : List EntC) (i : Nat) {l : List (Nat × Value)} {a : Act} {w : World}, tabB ops n i ts = true → Has a n l → F w → TabAll ops Q n F l ts → (∀ a w, Has a n (tabV l ts) → F w → Q .normal a w) → wpList Tryz.prog ops Q (ops.toList.drop i) a w
 | [], i, l, a, w, hb, H, hF, _, hfin => by
  have : i = ops.size := Nat.eq_of_beq_eq_true hb
  subst this
  rw [← Array.length_toList, List.drop_length]
  exact wpList_nil (hfin a w H hF)
 | t :: ts, i, l, a, w, hb, H, hF, hT, hfin => by
  simp only [tabB, Bool.and_eq_true] at hb
  have hop : t.op = i := Nat.eq_of_beq_eq_true hb.1
  unfold TabAll at hT
  unfold tabV at hfin
  have hlt : i < ops.size := by have := tabB_len hb.2.2; omega
  have go : wpOp Tryz.prog ops Q i (fun a' w' => wpList Tryz.prog ops Q (ops.toList.drop (i + 1)) a' w') a w → wpList Tryz.prog ops Q (ops.toList.drop i) a w := by
   intro h
   obtain ⟨o, ho⟩ : ∃ o, ops[i]? = some o := ⟨_, Array.getElem?_eq_getElem hlt⟩
   obtain ⟨hi, he⟩ := Array.getElem?_eq_some_iff.1 ho
   have : ops.toList.drop i = o :: ops.toList.drop (i + 1) := by
    rw [List.drop_eq_getElem_cons (by simpa using hi)]
    simp [he]
   rw [this]
   exact wpList_of_op ho h
  split at hT
  ·next v hc hm =>
   rw [hc] at hfin
   rw [hop] at hT
   refine go (hT.1 _ a w H hF ?_)
   exact tab_ok hk ts (i + 1) hb.2.2 (H.put hb.2.1 v) hF hT.2 hfin
  ·next v hc hm =>
   rw [hc] at hfin
   rw [hop] at hT
   refine go (hT.1 _ a w ?_ trivial hF ?_)
   ·have : l ++ knownE (afts ops (eh i t.slot v).op) [] = l := List.append_nil l
    rw [this]; exact H
   ·rintro v' w' hv hbl
    have hv : v' = v := hv
    subst hv
    exact tab_ok hk ts (i + 1) hb.2.2 (H.put hb.2.1 v') (hk _ _ hF hbl) hT.2 hfin
  ·exact False.elim hT
theorem Has.tb {a : Act} {w : World} {c : Code} {id : Nat} {Q' : Exit → Act → World → Prop} (H : Has a n l) (F : World → Prop) (hk : ∀ w w', F w → Below w.heap.size w w' → F w') (hF : F w) (es : List EntC) (hc : peel Tryz.prog c Q' = (.region id ops false, Q)) (hT : TabAll ops Q n F l es) (hfin : ∀ a w, Has a n (tabV l es) → F w → Q .normal a w)
  (hb : tabB ops n 0 es = true := by kernel_rfl) : c.wp Tryz.prog Q' a w := by
 refine peel_wp c Q' ?_
 rw [hc]
 exact wp_region_list (tab_ok hk es 0 hb H hF hT hfin)
end
end
section
open Go.RowKit
section
variable {P : Program} {Q : Exit → Act → World → Prop} {a : Act} {w : World}
theorem wp_loop_up {c : Code} (N : Nat) (J : Nat → Act → World → Prop) (h0 : J 0 a w) (round : ∀ k a w, k ≤ N → J k a w → c.wp P (Exit.then (fun a' w' => k < N ∧ J (k + 1) a' w') Q) a w) : (Code.loop c).wp P Q a w := by
 have key : ∀ n k a w, N - k = n → k ≤ N → J k a w → Code.rounds P c Q (n + 1) a w := by
  intro n
  induction n with
  | zero =>
   intro k a w hn hk hJ
   rw [rounds_succ]
   refine wp_mono (round k a w hk hJ) ?_
   intro e a' w' he
   cases e with
   | normal => exact absurd he.1 (by omega)
   | _ => exact he
  | succ n ih =>
   intro k a w hn hk hJ
   rw [rounds_succ]
   refine wp_mono (round k a w hk hJ) ?_
   intro e a' w' he
   cases e with
   | normal => exact ih (k + 1) a' w' (by omega) he.1 he.2
   | _ => exact he
 exact wp_loop_rounds (N + 1) (key N 0 a w (by omega) (Nat.zero_le _) h0)
theorem then_exit {next : Act → World → Prop} {id : Nat} (h : Q (.exit id) a w) : Exit.then next Q (.exit id) a w := h
theorem block_leave {id : Nat} (h : Q .normal a w) : Exit.inBlock id Q (.exit id) a w := by
 simp only [Exit.inBlock, if_true]
 exact h
end
theorem shr8 (k : Int) (_h0 : 0 ≤ k) (_h1 : k ≤ 65535) (x y : Operand) (w : World) : (do eqGuard .shr 3 x y (iz k) (.int .u64 8); binOp .shr 3 (iz k) (.int .u64 8) : Sem Value).run Tryz.prog w = .ok (iz (k / 256)) w := by
 simp [go_sem]
theorem lss_i (u v : Int) (b : Bool) (h : decide (u < v) = b) (x y : Operand) (w : World) : (do eqGuard .lss 3 x y (iz u) (iz v); binOp .lss 3 (iz u) (iz v) : Sem Value).run Tryz.prog w = .ok (.bool b) w := by
 subst h
 simp [go_sem]
theorem gtr_i (u v : Int) (b : Bool) (h : decide (v < u) = b) (x y : Operand) (w : World) : (do eqGuard .gtr 3 x y (iz u) (iz v); binOp .gtr 3 (iz u) (iz v) : Sem Value).run Tryz.prog w = .ok (.bool b) w := by
 subst h
 simp [go_sem]
theorem geq_i (u v : Int) (b : Bool) (h : decide (v ≤ u) = b) (x y : Operand) (w : World) : (do eqGuard .geq 3 x y (iz u) (iz v); binOp .geq 3 (iz u) (iz v) : Sem Value).run Tryz.prog w = .ok (.bool b) w := by
 subst h
 simp [go_sem]
theorem succ_i (k : Nat) (h : k < 9223372036854775807) (x y : Operand) (w : World) : (do eqGuard .add 3 x y (iz k) (iz 1); binOp .add 3 (iz k) (iz 1) : Sem Value).run Tryz.prog w = .ok (iz ((k + 1 : Nat) : Int)) w := by
 simp [go_sem]
 exact IntWalk.i64_in _ (by omega)
theorem index_1 (T : TypeId) (hT : Tryz.prog.underlying T = some (.slice (Tryz.prog.elem T))) (hs : ∀ w, (sizeOf (Tryz.prog.elem T)).run Tryz.prog w = .ok 1 w) (b o n c k : Nat) (hk : k < n) (w : World) : (Instr.indexAt T (.slice (some ⟨b, o, none⟩) n c) (iz k)).run Tryz.prog w = .ok (.pointer (some ⟨b, o + k, none⟩)) w := by
 rw [run_indexAt_slice (h := hT), if_pos ⟨by omega, by omega⟩, hs]
 have e : (Addr.mk b o none).add ((k : Int).toNat * 1) = ⟨b, o + k, none⟩ := by
  rw [Int.toNat_natCast, Nat.mul_one]
  unfold Addr.add
  by_cases h : k = 0 <;> simp [h]
 rw [Result.andThen_ok, e]
theorem index_2 (T : TypeId) (hT : Tryz.prog.underlying T = some (.slice (Tryz.prog.elem T))) (hs : ∀ w, (sizeOf (Tryz.prog.elem T)).run Tryz.prog w = .ok 2 w) (b o n c k : Nat) (hk : k < n) (w : World) : (Instr.indexAt T (.slice (some ⟨b, o, none⟩) n c) (iz k)).run Tryz.prog w = .ok (.pointer (some ⟨b, o + k * 2, none⟩)) w := by
 rw [run_indexAt_slice (h := hT), if_pos ⟨by omega, by omega⟩, hs]
 have e : (Addr.mk b o none).add ((k : Int).toNat * 2) = ⟨b, o + k * 2, none⟩ := by
  rw [Int.toNat_natCast]
  unfold Addr.add
  by_cases h : k = 0
  ·simp [h]
  ·rw [if_neg (by omega)]
 rw [Result.andThen_ok, e]
section
variable {P : Program} {ops : Array Oper} {rest : List Oper} {o : Oper} {a : Act} {w : World} {Q : Exit → Act → World → Prop} {n : Nat} {l : List (Nat × Value)}
theorem Has.index (H : Has a n l) (hw : Region.wanted o (yielded ops a.tmps) = true) {T d : Nat} {x i : Operand} {u v r : Value} (ho : o.op = .indexAddr T x i) (hd : o.dst = some d) (hn : Nat.blt d n = true) (hx : evL l x = some u) (hi : evL l i = some v)
  (hq : (Instr.indexAt T u v).run P w = .ok r w) (h : ∀ a', Has a' n ((d, r) :: l) → wpList P ops Q rest a' w) : wpList P ops Q (o :: rest) a w := by
 refine H.go hw hd hn _ ?_ h
 unfold execOp
 simp only [ho, H.ev hx, H.ev hi, Sem.run_bind, hq, Result.andThen_ok, Sem.run_pure]
theorem Has.len (H : Has a n l) (hw : Region.wanted o (yielded ops a.tmps) = true) {d : Nat} {s : Operand} {t : TypeId} {A : Option Addr} {m c : Nat} (ho : o.op = .call { callee := .builtin .len, args := #[s], argTypes := #[t] }) (hd : o.dst = some d) (hn : Nat.blt d n = true) (hs : evL l s = some (.slice A m c)) {e : TypeId} (ht : P.underlying t = some (.slice e))
  (h : ∀ a', Has a' n ((d, iz m) :: l) → wpList P ops Q rest a' w) : wpList P ops Q (o :: rest) a w :=
 H.go hw hd hn _ (run_len ho (H.ev hs) ht) h
theorem Has.bytes (H : Has a n l) (hw : Region.wanted o (yielded ops a.tmps) = true) {d k : Nat} (hd : o.dst = some d) (hn : Nat.blt d n = true) (xs : List UInt8) (vs : List Value) (hxs : vs = xs.map bv) (hk : xs.length = k) (e : TypeId) (hs : ∀ cs b, o.op ≠ .select cs b) (hops : o.op.operands.all (fun x => (evL l x).isSome) = true)
  (hrun : (execOp (fun x => (evL l x).getD undef) o).run P w = .ok (.value (.slice (some ⟨w.heap.size, 0, none⟩) k k)) (w.alloc (.cells vs.toArray e)))
  (h : ∀ a' v w', Has a' n ((d, v) :: l) → BytesAre xs v w' → Below w.heap.size w w' → wpList P ops Q rest a' w') : wpList P ops Q (o :: rest) a w := by
 obtain ⟨h1, h2⟩ := bytes_lit w xs vs hxs e k hk
 exact H.go hw hd hn _ (run_any H hs hops hrun) (fun a' H' => h a' _ _ H' h1 h2)
theorem Has.appendRow (H : Has a n l) (hgb : P.underlying 31 = some (.slice 5)) (hi : (P.info? 5).map (fun i => (i.zero, i.size, i.bytes)) = some (some (.int .u8 0), 1, 1)) (hw : Region.wanted o (yielded ops a.tmps) = true) {d : Nat} {s x : Operand}
  (ho : o.op = .call { callee := .builtin .append, args := #[s, x], argTypes := #[31, 31] }) (hd : o.dst = some d) (hn : Nat.blt d n = true) {b : Nat} {xs ys : List UInt8} {v u : Value} (hs : evL l s = some v) (hx : evL l x = some u) (hv : RowIs b xs v w) (hu : BytesAre ys u w)
  (hl : xs.length + ys.length ≤ 140737488355328) (hb : b ≤ w.heap.size) (h : ∀ a' v' w', Has a' n ((d, v') :: l) → RowIs b (xs ++ ys) v' w' → Below b w w' → w.grownBy w' v.ownBlock → wpList P ops Q rest a' w') : wpList P ops Q (o :: rest) a w := by
 obtain ⟨v', w', hrun, h1, h2, h3⟩ := run_append_row (P := P) (a := a) (w := w) hgb hi (o := o) ho (H.ev hs) (H.ev hx) hv hu hl hb
 exact H.go hw hd hn v' hrun (fun a' H' => h a' v' w' H' h1 h2 h3)
end
section
variable {P : Program} {o : Oper} {a : Act} {w : World}
end
end
section
open Go.RowKit
section
variable {P : Program} {ops : Array Oper} {Q : Exit → Act → World → Prop}
theorem upon_then {o : Oper} {a : Act} {K : Act → World → Prop} {St : Act → World → Prop} {r : Result Next} (h : o.upon P a K (Exit.then St Q) r) : o.upon P a K Q r := by
 cases r with
 | ok n w' =>
  cases n with
  | enter f args =>
   refine Calls.mono h ?_
   intro e w'' he
   cases e with
   | returned v => exact he
   | panicked c => exact he
   | outgrown => exact he
  | _ => exact h
 | halt x w' =>
  cases x <;> exact h
theorem wpList_join {St : Act → World → Prop} (h2 : List Oper) (h : ∀ a w, St a w → wpList P ops Q h2 a w) : ∀ (l : List Oper) (a : Act) (w : World), wpList P ops (Exit.then St Q) l a w → wpList P ops Q (l ++ h2) a w
 | [], a, w, hl => h a w hl
 | o :: l, a, w, hl => by
  rw [List.cons_append]
  unfold wpList at hl ⊢
  split at hl
  ·next hw =>
   rw [if_pos hw]
   rcases hl with hl | ⟨h1, h3⟩
   ·left
    exact upon_then (Oper.wp_mono (fun a w hh => wpList_join h2 h l a w hh) hl)
   ·exact .inr ⟨h1, h3⟩
  ·next hw =>
   rw [if_neg hw]
   exact wpList_join h2 h l _ _ hl
theorem wpList_cut {l : List Oper} {a : Act} {w : World} (k : Nat) (St : Act → World → Prop) (h1 : wpList P ops (Exit.then St Q) (l.take k) a w) (h2 : ∀ a w, St a w → wpList P ops Q (l.drop k) a w) : wpList P ops Q l a w := by
 rw [← List.take_append_drop k l]
 exact wpList_join _ h2 _ _ _ h1
end
theorem leq_i (u v : Int) (b : Bool) (h : decide (u ≤ v) = b) (x y : Operand) (w : World) : (do eqGuard .leq 3 x y (iz u) (iz v); binOp .leq 3 (iz u) (iz v) : Sem Value).run Tryz.prog w = .ok (.bool b) w := by
 subst h
 simp [go_sem]
theorem wp_scope_one {P : Program} {a : Act} {w : World} {Q : Exit → Act → World → Prop} {c r0 : Code} {k : Nat} (hf : findLabel c k = some (.seq .skip r0)) (J : Act → World → Prop) (μ : Act → World → Nat) (first : (∀ a w, J a w → r0.wp P (Exit.jump k J Q) a w) → c.wp P (Exit.jump k J Q) a w)
  (pass : ∀ a w, J a w → r0.wp P (Exit.jump k (fun a' w' => J a' w' ∧ μ a' w' < μ a w) Q) a w) : (Code.scope c).wp P Q a w := by
 refine wp_scope_jumps k J μ hf (first fun a w h => wp_mono (pass a w h) ?_) fun a w h => wp_seq (wp_skip (then_normal (pass a w h)))
 intro e a' w' he
 cases e with
 | goto l => exact ⟨he.1, he.2.1⟩
 | _ => exact he
theorem jump_ret {Q : Exit → Act → World → Prop} {a : Act} {w : World} {k : Nat} {J : Act → World → Prop} (h : Q .ret a w) : Exit.jump k J Q .ret a w := h
theorem jump_goto {Q : Exit → Act → World → Prop} {a : Act} {w : World} {k : Nat} {J : Act → World → Prop} (h : J a w) : Exit.jump k J Q (.goto k) a w := ⟨rfl, h⟩
def Exit.two (J0 J1 : Act → World → Prop) (Q : Exit → Act → World → Prop) : Exit → Act → World → Prop
 | .goto l, a, w => (l = 0 ∧ J0 a w) ∨ (l = 1 ∧ J1 a w)
 | e, a, w => Q e a w
section
variable {P : Program} {a : Act} {w : World} {Q : Exit → Act → World → Prop} {J0 J1 : Act → World → Prop}
theorem two_ret (h : Q .ret a w) : Exit.two J0 J1 Q .ret a w := h
theorem two_goto0 (h : J0 a w) : Exit.two J0 J1 Q (.goto 0) a w := .inl ⟨rfl, h⟩
theorem two_goto1 (h : J1 a w) : Exit.two J0 J1 Q (.goto 1) a w := .inr ⟨rfl, h⟩
theorem then_goto {next : Act → World → Prop} {l : Nat} (h : Q (.goto l) a w) : Exit.then next Q (.goto l) a w := h
theorem label_wp {l : Nat} (h : Q .normal a w) : (Code.label l).wp P Q a w := wp_label h
theorem wp_scope_two {c r0 r1 : Code} (hf0 : findLabel c 0 = some (.seq .skip r0)) (hf1 : findLabel c 1 = some (.seq .skip r1)) (N : Nat) (J : Nat → Act → World → Prop) (J1 : Act → World → Prop)
  (first : (∀ k a w, k ≤ N → J k a w → r0.wp P (Exit.two (fun a w => ∃ k, k ≤ N ∧ J k a w) J1 Q) a w) → c.wp P (Exit.two (fun a w => ∃ k, k ≤ N ∧ J k a w) J1 Q) a w)
  (pass : ∀ k a w, k ≤ N → J k a w → r0.wp P (Exit.two (fun a w => k < N ∧ J (k + 1) a w) J1 Q) a w)
  (last : ∀ a w, J1 a w → r1.wp P (Exit.two (fun _ _ => False) (fun _ _ => False) Q) a w) : (Code.scope c).wp P Q a w := by
 have hp0 := pass
 have pass : ∀ k a w, k ≤ N → J k a w → (Code.seq .skip r0).wp P (Exit.two (fun a w => k < N ∧ J (k + 1) a w) J1 Q) a w := fun k a w hk hJ => wp_seq (wp_skip (then_normal (pass k a w hk hJ)))
 have last : ∀ a w, J1 a w → (Code.seq .skip r1).wp P (Exit.two (fun _ _ => False) (fun _ _ => False) Q) a w := fun a w hJ => wp_seq (wp_skip (then_normal (last a w hJ)))
 intro b k cs
 have hg0 : gotoIn 0 (.inScope c :: k) = some (.code (.seq .skip r0) :: .inScope c :: k) := by simp [gotoIn, hf0]
 have hg1 : gotoIn 1 (.inScope c :: k) = some (.code (.seq .skip r1) :: .inScope c :: k) := by simp [gotoIn, hf1]
 have key1 : ∀ a w, J1 a w → ∃ e a' w', Q e a' w' ∧ Arrives P (lone (b.at a (.code (.seq .skip r1) :: .inScope c :: k)) cs w) b k cs e a' w' := by
  intro a w hJ
  obtain ⟨e, a₁, w₁, hq, harr⟩ := last a w hJ b (.inScope c :: k) cs
  cases e with
  | normal => exact ⟨.normal, a₁, w₁, hq, Steps.trans harr (.one step_inScope)⟩
  | exit id => exact ⟨.exit id, a₁, w₁, hq, fun k' hk => harr k' (by simp [exitTo, hk])⟩
  | goto l' => rcases hq with ⟨_, h⟩ | ⟨_, h⟩ <;> exact h.elim
  | ret => exact ⟨_, a₁, w₁, hq, harr⟩
  | panic ch => exact ⟨_, a₁, w₁, hq, harr⟩
  | outgrown => exact ⟨_, a₁, w₁, hq, harr⟩
 have key0 : ∀ n i a w, N - i = n → i ≤ N → J i a w → ∃ e a' w', Q e a' w' ∧ Arrives P (lone (b.at a (.code (.seq .skip r0) :: .inScope c :: k)) cs w) b k cs e a' w' := by
  intro n
  induction n using Nat.strongRecOn with
  | _ n ih =>
   intro i a w hn hi hJ
   obtain ⟨e, a₁, w₁, hq, harr⟩ := pass i a w hi hJ b (.inScope c :: k) cs
   cases e with
   | normal => exact ⟨.normal, a₁, w₁, hq, Steps.trans harr (.one step_inScope)⟩
   | exit id => exact ⟨.exit id, a₁, w₁, hq, fun k' hk => harr k' (by simp [exitTo, hk])⟩
   | goto l' =>
    rcases hq with ⟨rfl, hlt, hJ'⟩ | ⟨rfl, hJ'⟩
    ·obtain ⟨e₂, a₂, w₂, hq₂, harr₂⟩ := ih (N - (i + 1)) (by omega) (i + 1) a₁ w₁ rfl (by omega) hJ'
     exact ⟨e₂, a₂, w₂, hq₂, .of_steps (harr _ hg0) harr₂⟩
    ·obtain ⟨e₂, a₂, w₂, hq₂, harr₂⟩ := key1 a₁ w₁ hJ'
     exact ⟨e₂, a₂, w₂, hq₂, .of_steps (harr _ hg1) harr₂⟩
   | ret => exact ⟨_, a₁, w₁, hq, harr⟩
   | panic ch => exact ⟨_, a₁, w₁, hq, harr⟩
   | outgrown => exact ⟨_, a₁, w₁, hq, harr⟩
 have hp : ∀ k a w, k ≤ N → J k a w → r0.wp P (Exit.two (fun a w => ∃ k, k ≤ N ∧ J k a w) J1 Q) a w := fun i a w hi hJ => wp_mono (hp0 i a w hi hJ) (by
  intro e a w h
  cases e with
  | goto l =>
   rcases h with ⟨e, h1, h2⟩ | h
   ·exact .inl ⟨e, i + 1, h1, h2⟩
   ·exact .inr h
  | _ => exact h)
 obtain ⟨e, a₁, w₁, hq, harr⟩ := first hp b (.inScope c :: k) cs
 cases e with
 | normal => exact ⟨.normal, a₁, w₁, hq, .head step_scope (Steps.trans harr (.one step_inScope))⟩
 | exit id => exact ⟨.exit id, a₁, w₁, hq, fun k' hk => .head step_scope (harr k' (by simp [exitTo, hk]))⟩
 | goto l' =>
  rcases hq with ⟨rfl, i, hi, hJ'⟩ | ⟨rfl, hJ'⟩
  ·obtain ⟨e₂, a₂, w₂, hq₂, harr₂⟩ := key0 _ i a₁ w₁ rfl hi hJ'
   exact ⟨e₂, a₂, w₂, hq₂, .of_steps (.head step_scope (harr _ hg0)) harr₂⟩
  ·obtain ⟨e₂, a₂, w₂, hq₂, harr₂⟩ := key1 a₁ w₁ hJ'
   exact ⟨e₂, a₂, w₂, hq₂, .of_steps (.head step_scope (harr _ hg1)) harr₂⟩
 | ret => exact ⟨_, a₁, w₁, hq, .of_steps (.one step_scope) harr⟩
 | panic ch => exact ⟨_, a₁, w₁, hq, .of_steps (.one step_scope) harr⟩
 | outgrown => exact ⟨_, a₁, w₁, hq, .of_steps (.one step_scope) harr⟩
end
end
section
open Go.RowKit
theorem RowIs.read {b : Nat} {xs : List UInt8} {v : Value} {w : World} (h : RowIs b xs v w) : BytesAre xs v w := by
 obtain ⟨A, c, rfl, ho⟩ := h
 exact ⟨A, c, rfl, RB.of_ownN ho⟩
theorem results_pair {P : Program} {fn : Func} {p q : Tmp} (h : fn.results = #[.tmp p, .tmp q]) (tmps : Array Value) (u v : Value) {w : World} (hp : tmps.getD p undef = u) (hq : tmps.getD q undef = v) : (results fn tmps).run P w = .ok (.tuple #[u, v]) w := by
 have hp' : tmps[p]?.getD undef = u := by simpa using hp
 have hq' : tmps[q]?.getD undef = v := by simpa using hq
 simp [results, h, hp', hq']
theorem results_three {P : Program} {fn : Func} {p q r : Tmp} (h : fn.results = #[.tmp p, .tmp q, .tmp r]) (tmps : Array Value) (u v x : Value) {w : World} (hp : tmps.getD p undef = u) (hq : tmps.getD q undef = v) (hr : tmps.getD r undef = x) : (results fn tmps).run P w = .ok (.tuple #[u, v, x]) w := by
 have hp' : tmps[p]?.getD undef = u := by simpa using hp
 have hq' : tmps[q]?.getD undef = v := by simpa using hq
 have hr' : tmps[r]?.getD undef = x := by simpa using hr
 simp [results, h, hp', hq', hr']
def TypB (w : World) (g T : Nat) : Prop := ∃ l fr, w.heap[g]? = some (.cells l T fr)
theorem TypB.set {w : World} {g T : Nat} (h : TypB w g T) (a : Addr) (v : Value) : TypB (w.setCell a v) g T := by
 obtain ⟨l, fr, h⟩ := h
 unfold World.setCell TypB
 simp only [Array.getElem?_modify, h]
 split
 ·exact ⟨_, _, rfl⟩
 ·exact ⟨_, _, rfl⟩
theorem TypB.sets {g T : Nat} (g' : Nat) : ∀ (vs : List Value) (o : Nat) {w : World}, TypB w g T → TypB (w.setCells g' o vs) g T
 | [], _, _, h => h
 | v :: vs, o, _, h => TypB.sets g' vs (o + 1) (h.set ⟨g', o, none⟩ v)
theorem TypB.grown {w w' : World} {g T : Nat} {r : Option Nat} (h : TypB w g T) (hg : w.grownBy w' r) (hne : some g ≠ r) : TypB w' g T := by
 obtain ⟨l, fr, h⟩ := h
 exact ⟨l, fr, (hg.block g (Array.getElem?_eq_some_iff.1 h).1 hne).trans h⟩
theorem TypB.below {w w' : World} {g T : Nat} (h : TypB w g T) (hb : Below w.heap.size w w') : TypB w' g T := h.grown (below_grown hb none) (by simp)
theorem TypB.far {w : World} {g T b e s n : Nat} {v : Value} {xs : List Value} (h : TypB w g T) (hO : w.ownsRow b e s v n xs) (he : Nat.beq e T = false) : some g ≠ v.ownBlock := by
 obtain ⟨l, fr, h⟩ := h
 rcases hO.2 with ⟨rfl, _⟩ | ⟨g1, c1, cur1, rfl, _, hg1, _⟩
 ·intro h; cases h
 ·intro h2
  have h2 : g = g1 := by injection h2
  subst h2
  rw [h] at hg1
  injection hg1 with hg1
  injection hg1 with _ hg1 _
  subst hg1
  rw [Nat.beq_refl] at he
  cases he
def BoxQ (base T : Nat) (L : List Value) (v : Value) (w : World) : Prop := ∃ g, v = pz g ∧ base ≤ g ∧ g < w.heap.size ∧ Cells w g L ∧ TypB w g T
theorem BoxQ.below {base T : Nat} {L : List Value} {v : Value} {w w' : World} (hb : Below w.heap.size w w') (h : BoxQ base T L v w) : BoxQ base T L v w' := by
 obtain ⟨g, h1, h2, h3, h4, h5⟩ := h
 exact ⟨g, h1, h2, Nat.lt_of_lt_of_le h3 hb.size, h4.below hb h3, h5.below hb⟩
theorem Has.nk {ops : Array Oper} {rest rest' : List Oper} {o1 o2 : Oper} {a : Act} {w W : World} {B : Nat} {bs : List (Nat × List Value)} {Q : Exit → Act → World → Prop} {n : Nat} {l l' : List (Nat × Value)} (H : Has a n l) (O : Own W B bs w) (k : Nat) {d T m : Nat} {y : Operand} {L L0 : List Value} (h1 : L.all (·.oneCell') = true)
  (hz : ∀ w, (zeroValue T).run Tryz.prog w = .ok (.agg L0.toArray) w) (hm : (Tryz.prog.info? T).map (·.size) = some m) (h : ∀ a' w', Below w.heap.size w w' → Own W B ((w.heap.size, L) :: bs) w' → TypB w' w.heap.size T → Has a' n l' → wpList Tryz.prog ops Q rest' a' w') (ho : o1.op = .alloc T := by rfl) (hd : o1.dst = some d := by rfl) (hn : Nat.blt d n = true := by rfl)
  (hg : o1.guard = none := by rfl) (ho2 : o2.op = .store T (.tmp d) y := by rfl) (hd2 : o2.dst = none := by rfl) (hg2 : o2.guard = none := by rfl) (hy : evL ((d, pz w.heap.size) :: l) y = some (.agg L.toArray) := by rfl) (hl : L.length = m := by rfl) (hl0 : L0.length = m := by rfl)
  (hr : runM n k rest ((d, pz w.heap.size) :: l) = some (rest', l') := by rfl) : wpList Tryz.prog ops Q (o1 :: o2 :: rest) a w := by
 have hb := balloc w (.cells L0.toArray T)
 have hC : Cells (w.alloc (.cells L0.toArray T)) w.heap.size L0 := Cells.of_heap (heap_alloc_new w _)
 have O1 := O.alloc hb (by simp) hC
 have hT1 : TypB (w.alloc (.cells L0.toArray T)) w.heap.size T := ⟨_, _, heap_alloc_new w _⟩
 refine H.go (w' := w.alloc (.cells L0.toArray T)) (gz hg) hd hn (pz w.heap.size) ?_ fun a1 H1 => ?_
 ·unfold execOp
  simp only [ho]
  simp [Instr.alloc, hz, Sem.run_bind, Result.andThen, newVar, newRow, Value.cells, newObj]
  rfl
 have ht : (w.alloc (.cells L0.toArray T)).there w.heap.size 0 L.toArray.size := by
  have := hC.there
  rw [hl0, ← hl] at this
  simpa using this
 have hr2 := run_storeAt_mid (P := Tryz.prog) (w.alloc (.cells L0.toArray T)) w.heap.size 0 T L.toArray ht (by rw [hm, ← hl]; simp) (all_oneCell_toArray fun v hv => List.all_eq_true.1 h1 v hv)
 have hgr := (setCells_only w.heap.size L 0 (w.alloc (.cells L0.toArray T))).2
 refine H1.run0 (gz hg2) hd2 (run_store ho2 (H1.ev (by show (bif Nat.beq d d then _ else _) = _; rw [Nat.beq_refl, cond_true])) (H1.ev hy) hr2) fun a2 H2 => runM_ok k H2 hr fun a3 H3 => h a3 _ (hb.grown hgr hb.size (fun k hk => by injection hk with hk; rw [← hk]; exact Nat.le_refl _)) (O1.store 0 rfl hgr (setCells_only w.heap.size L 0 _).1.size ?_) (hT1.sets _ L 0) H3
 intro j v hv
 have hj := (List.getElem?_eq_some_iff.1 hv).1
 have a := World.rangeAt_setCells_same _ w.heap.size 0 L (by simpa using ht) j v hv
 have b := (World.there_setCells (by simpa using ht) w.heap.size 0 L j hj).2
 rw [Nat.zero_add] at a b
 exact ⟨a, b⟩
theorem Has.app {ops : Array Oper} {rest : List Oper} {o : Oper} {a : Act} {w : World} {Q : Exit → Act → World → Prop} {n : Nat} {l : List (Nat × Value)} (H : Has a n l) {s x : Operand} {t e : TypeId} {d base size bytes k m c : Nat} {z u : Value} {A : Option Addr} {xs ys : List Value} (hown : w.ownsRow base e size u k xs) (hi : (Tryz.prog.info? e).map (fun i => (i.zero, i.size, i.bytes)) = some (some z, size, bytes))
  (hr : Reads w w.heap.size size A m ys) (h1 : ∀ u ∈ ys, u.oneCell' = true) (hn : k + m ≤ maxLen) (hb : (k + m) * bytes ≤ 140737488355328) (hbase : base ≤ w.heap.size) (h : ∀ a' A' c' w', w'.ownsRow base e size (.slice A' (k + m) c') (k + m) (xs ++ ys) → w.grownBy w' u.ownBlock → Has a' n ((d, .slice A' (k + m) c') :: l) → wpList Tryz.prog ops Q rest a' w')
  (ho : o.op = .call { callee := .builtin .append, args := #[s, x], argTypes := #[t, t] } := by rfl) (hd : o.dst = some d := by rfl) (hnn : Nat.blt d n = true := by rfl) (hg : o.guard = none := by rfl) (ht : Tryz.prog.underlying t = some (.slice e) := by kernel_rfl) (hzs : z.cells.size = size := by rfl) (hsz : 0 < size := by decide)
  (hs : evL l s = some u := by rfl) (hx : evL l x = some (.slice A m c) := by rfl) : wpList Tryz.prog ops Q (o :: rest) a w := by
 obtain ⟨A', c', w', hrun, hO, hgr⟩ := run_app (a := a) ho ht hi hzs hsz (H.ev hs) hown (H.ev hx) hr h1 hn hb hbase
 exact H.go (gz hg) hd hnn _ hrun fun a' H' => h a' A' c' w' hO hgr H'
theorem Own.row {W w w' : World} {B : Nat} {bs : List (Nat × List Value)} {b e s n : Nat} {v : Value} {xs : List Value} (O : Own W B bs w) (hO : w.ownsRow b e s v n xs) (hB : B ≤ b) (hg : w.grownBy w' v.ownBlock) (hall : ∀ p ∈ bs, some p.1 ≠ v.ownBlock) : Own W B bs w' :=
 ⟨O.bel.grown hg O.le fun k hk => Nat.le_trans hB (hO.lt k hk).1, Nat.le_trans O.le hg.size, O.nd, fun p hp => ⟨(O.mem p hp).1, Nat.lt_of_lt_of_le (O.mem p hp).2.1 hg.size, (O.mem p hp).2.2.kept hg (O.mem p hp).2.1 (hall p hp)⟩⟩
theorem rb_of_own {w : World} {b n : Nat} {xs : List UInt8} {A : Option Addr} {c : Nat} (hn : xs.length = n) (h : w.ownsRow b 5 1 (.slice A n c) n (xs.map bv)) (_hb : b ≤ w.heap.size) : RB w w.heap.size A xs := by
 subst hn
 obtain ⟨_, _, e, hr⟩ := (RowIs.read (b := b) ⟨A, c, rfl, h⟩ : BytesAre xs (.slice A xs.length c) w)
 injection e with h1 _ _
 subst h1
 exact hr
theorem own_cap {w : World} {b e s n c : Nat} {A : Option Addr} {xs : List Value} (h : w.ownsRow b e s (.slice A n c) n xs) : n ≤ c := by
 obtain ⟨_, _, hve, hcr, _⟩ := own_shape h
 injection hve with _ _ hce
 rw [hce]
 exact hcr
theorem slice_lo (A : Option Addr) (n c lo : Nat) (h1 : lo ≤ n) (_h3 : n ≤ c) (w : World) : (Instr.sliceAt 31 (.slice A n c) (some (iz lo)) none none).run Tryz.prog w = .ok (.slice (if c = lo then A else A.map (·.add lo)) (n - lo) (c - lo)) w := by
 simp [go_sem]
 omega
theorem run_slice_l {P : Program} {o : Oper} {a : Act} {w : World} {T : Nat} {x lo : Operand} {u v r : Value} (ho : o.op = .slice T x (some lo) none none) (hx : a.eval x = u) (hl : a.eval lo = v) (hq : (Instr.sliceAt T u (some v) none none).run P w = .ok r w) : (execOp a.eval o).run P w = .ok (.value r) w := by
 unfold execOp
 simp only [ho, hx, Option.map_some, Option.map_none, hl, Sem.run_bind, hq, Result.andThen_ok, Sem.run_pure]
theorem slice_lh (A : Option Addr) (n c lo hi : Nat) (h1 : lo ≤ hi) (h2 : hi ≤ n) (h3 : n ≤ c) (w : World) : (Instr.sliceAt 31 (.slice A n c) (some (iz lo)) (some (iz hi)) none).run Tryz.prog w = .ok (.slice (if c = lo then A else A.map (·.add lo)) (hi - lo) (c - lo)) w := by
 simp [go_sem]
 rw [if_pos (by omega), if_pos h1]
theorem slice_h (A : Option Addr) (n c hi : Nat) (h2 : hi ≤ n) (h3 : n ≤ c) (w : World) : (Instr.sliceAt 31 (.slice A n c) none (some (iz hi)) none).run Tryz.prog w = .ok (.slice A hi c) w := by
 simp [go_sem]
 intro h
 omega
theorem index_0 (b o n c : Nat) (hn : 0 < n) (w : World) : (Instr.indexAt 31 (.slice (some ⟨b, o, none⟩) n c) (iz 0)).run Tryz.prog w = .ok (.pointer (some ⟨b, o, none⟩)) w := by
 have h := index_1 31 Tryz.underlying31 (fun _ => by kernel_rfl) b o n c 0 hn w
 have e : ((0 : Nat) : Int) = 0 := rfl
 rw [e, Nat.add_zero] at h
 exact h
theorem index_m (T : TypeId) (hT : Tryz.prog.underlying T = some (.slice (Tryz.prog.elem T))) (m : Nat) (hs : ∀ w, (sizeOf (Tryz.prog.elem T)).run Tryz.prog w = .ok m w) (b o n c k : Nat) (hk : k < n) (w : World) : (Instr.indexAt T (.slice (some ⟨b, o, none⟩) n c) (iz k)).run Tryz.prog w = .ok (.pointer (some ⟨b, o + k * m, none⟩)) w := by
 rw [run_indexAt_slice (h := hT), if_pos ⟨by omega, by omega⟩, hs]
 have e : (Addr.mk b o none).add ((k : Int).toNat * m) = ⟨b, o + k * m, none⟩ := by
  rw [Int.toNat_natCast]
  unfold Addr.add
  by_cases h : k * m = 0
  ·rw [if_pos h, h]; rfl
  ·rw [if_neg h]
 rw [Result.andThen_ok, e]
theorem neq_3 (u v : Int) (b : Bool) (h : (u != v) = b) (x y : Operand) (w : World) : (do eqGuard .neq 3 x y (iz u) (iz v); binOp .neq 3 (iz u) (iz v) : Sem Value).run Tryz.prog w = .ok (.bool b) w := by
 rw [← h]
 simp [go_sem]
theorem eql_iB (u v : Int) (b : Bool) (h : (u == v) = b) (x y : Operand) (w : World) : (do eqGuard .eql 3 x y (iz u) (iz v); binOp .eql 3 (iz u) (iz v) : Sem Value).run Tryz.prog w = .ok (.bool b) w := by
 rw [← h]; exact eql_i u v x y w
section
variable {P : Program} {o : Oper} {a : Act} {w : World}
theorem run_slice {T : Nat} {x lo hi : Operand} {u v y r : Value} (ho : o.op = .slice T x (some lo) (some hi) none) (hx : a.eval x = u) (hl : a.eval lo = v) (hh : a.eval hi = y) (hq : (Instr.sliceAt T u (some v) (some y) none).run P w = .ok r w) : (execOp a.eval o).run P w = .ok (.value r) w := by
 unfold execOp
 simp only [ho, hx, Option.map_some, Option.map_none, hl, hh, Sem.run_bind, hq, Result.andThen_ok, Sem.run_pure]
theorem run_slice_h {T : Nat} {x hi : Operand} {u y r : Value} (ho : o.op = .slice T x none (some hi) none) (hx : a.eval x = u) (hh : a.eval hi = y) (hq : (Instr.sliceAt T u none (some y) none).run P w = .ok r w) : (execOp a.eval o).run P w = .ok (.value r) w := by
 unfold execOp
 simp only [ho, hx, Option.map_some, Option.map_none, hh, Sem.run_bind, hq, Result.andThen_ok, Sem.run_pure]
end
section
variable {ops : Array Oper} {Q : Exit → Act → World → Prop} {n : Nat} {l fixed : List (Nat × Value)} {F : World → Prop} {es : List EntC} {i s : Nat} {o : Oper}
theorem ka {T base : Nat} {L : List Value} (hz : ∀ w, (zeroValue T).run Tryz.prog w = .ok (.agg L.toArray) w) (hb : ∀ w, F w → base ≤ w.heap.size) (ho : ops[i]? = some o := by rfl) (hp : o.op = .alloc T := by rfl) (hd : o.dst = some s := by rfl) (hg : okG ops (fixed ++ knownE (afts ops i) es) o = true := by rfl) : HeavyE ops Q n fixed F es (er i s [] (BoxQ base T L)) :=
 kx (t := er i s [] (BoxQ base T L)) (fun a w _ _ hF => ⟨pz w.heap.size, w.alloc (.cells L.toArray T), by
  unfold execOp
  simp only [hp]
  simp [Instr.alloc, hz, Sem.run_bind, Result.andThen, newVar, newRow, Value.cells, newObj]
  rfl, ⟨w.heap.size, rfl, hb w hF, lt_alloc _ _, Cells.of_heap (heap_alloc_new w _), ⟨_, _, heap_alloc_new w _⟩⟩, balloc _ _⟩) ho hd hg
theorem jh {Wp : World → Prop} {T : Nat} {x hi : Operand} {u y r : Value} (hq : ∀ w, (Instr.sliceAt T u none (some y) none).run Tryz.prog w = .ok r w) (ho : ops[i]? = some o := by rfl) (hp : o.op = .slice T x none (some hi) none := by rfl) (hd : o.dst = some s := by rfl) (hg : okG ops l o = true := by rfl) (hx : evL l x = some u := by rfl) (hy : evL l hi = some y := by rfl) : PureE ops Q n l Wp i s r :=
 fun _ _ w H _ hK => wpOp_go ho (okG_w H hg) s hd r w (run_slice_h hp (H.ev hx) (H.ev hy) (hq w)) hK
theorem js2 {Wp : World → Prop} {T : Nat} {x lo hi : Operand} {u y z r : Value} (hq : ∀ w, (Instr.sliceAt T u (some y) (some z) none).run Tryz.prog w = .ok r w) (ho : ops[i]? = some o := by rfl) (hp : o.op = .slice T x (some lo) (some hi) none := by rfl) (hd : o.dst = some s := by rfl) (hg : okG ops l o = true := by rfl) (hx : evL l x = some u := by rfl) (hy : evL l lo = some y := by rfl) (hz : evL l hi = some z := by rfl) : PureE ops Q n l Wp i s r :=
 fun _ _ w H _ hK => wpOp_go ho (okG_w H hg) s hd r w (run_slice hp (H.ev hx) (H.ev hy) (H.ev hz) (hq w)) hK
end
theorem RowIs.of {b n c : Nat} {A : Option Addr} {xs : List UInt8} {w : World} (hn : xs.length = n) (h : w.ownsRow b 5 1 (.slice A n c) n (xs.map bv)) : RowIs b xs (.slice A n c) w := by
 subst hn
 exact ⟨A, c, rfl, h⟩
theorem store1_i (g o : Nat) (v : Int) (u : Value) (w : World) (h : w.cell? ⟨g, o, none⟩ = some u) (hf : w.frozen? ⟨g, o, none⟩ = false) : (Instr.storeAt 3 (.pointer (some ⟨g, o, none⟩)) (iz v)).run Tryz.prog w = .ok () (w.setCell ⟨g, o, none⟩ (iz v)) := by
 simp [go_sem, h, hf]
theorem store1_b (g o : Nat) (v : Bool) (u : Value) (w : World) (h : w.cell? ⟨g, o, none⟩ = some u) (hf : w.frozen? ⟨g, o, none⟩ = false) : (Instr.storeAt 4 (.pointer (some ⟨g, o, none⟩)) (.bool v)).run Tryz.prog w = .ok () (w.setCell ⟨g, o, none⟩ (.bool v)) := by
 simp [go_sem, h, hf]
theorem store1_s (g o : Nat) (v : ByteArray) (u : Value) (w : World) (h : w.cell? ⟨g, o, none⟩ = some u) (hf : w.frozen? ⟨g, o, none⟩ = false) : (Instr.storeAt 9 (.pointer (some ⟨g, o, none⟩)) (.string v)).run Tryz.prog w = .ok () (w.setCell ⟨g, o, none⟩ (.string v)) := by
 simp [go_sem, h, hf]
theorem store1_31 (g o n c : Nat) (A : Option Addr) (u : Value) (w : World) (h : w.cell? ⟨g, o, none⟩ = some u) (hf : w.frozen? ⟨g, o, none⟩ = false) : (Instr.storeAt 31 (.pointer (some ⟨g, o, none⟩)) (.slice A n c)).run Tryz.prog w = .ok () (w.setCell ⟨g, o, none⟩ (.slice A n c)) := by
 simp [go_sem, h, hf]
theorem Has.put1 {ops : Array Oper} {rest rest' : List Oper} {o : Oper} {a : Act} {w : World} {Q : Exit → Act → World → Prop} {n : Nat} {l l' : List (Nat × Value)} (H : Has a n l) {g j T : Nat} {x y : Operand} {v : Value} {L : List Value} (hC : Cells w g L) (k : Nat)
  (hst : ∀ u, w.cell? ⟨g, j, none⟩ = some u → w.frozen? ⟨g, j, none⟩ = false → (Instr.storeAt T (.pointer (some ⟨g, j, none⟩)) v).run Tryz.prog w = .ok () (w.setCell ⟨g, j, none⟩ v))
  (h : ∀ a' w', Cells w' g (L.set j v) → w.grownBy w' (some g) → Has a' n l' → wpList Tryz.prog ops Q rest' a' w')
  (ho : o.op = .store T x y := by rfl) (hd : o.dst = none := by rfl) (hg : o.guard = none := by rfl) (hx : evL l x = some (.pointer (some ⟨g, j, none⟩)) := by rfl) (hy : evL l y = some v := by rfl) (hj : Nat.blt j L.length = true := by rfl)
  (hr : runM n k rest l = some (rest', l') := by rfl) : wpList Tryz.prog ops Q (o :: rest) a w := by
 have hj' : j < L.length := by simpa [Nat.blt_eq] using hj
 obtain ⟨c1, c2⟩ := hC j _ (List.getElem?_eq_getElem hj')
 exact H.store (gz hg) ho hd hx hy (hst _ c1 c2) fun a' H' => runM_ok k H' hr fun a'' H'' => h a'' _ (hC.set j v hj') (grown_setCell w g j v) H''
theorem Own.turn {W w w' : World} {B : Nat} {bs : List (Nat × List Value)} (h : Own W B bs w) (i : Nat) {g : Nat} {L L' : List Value} (hi : bs[i]? = some (g, L)) (hg : w.grownBy w' (some g)) (hC : Cells w' g L') : Own W B (bs.set i (g, L')) w' := by
 have hgB := h.ge i hi
 have hglt := h.lt i hi
 have hs := hg.size
 have hli : i < bs.length := (List.getElem?_eq_some_iff.1 hi).1
 have hmap : (bs.set i (g, L')).map (·.1) = bs.map (·.1) := by
  apply List.ext_getElem?
  intro j
  rw [List.getElem?_map, List.getElem?_map, List.getElem?_set]
  by_cases e : i = j
  ·subst e
   simp only [if_true, hli, hi, Option.map_some]
  ·rw [if_neg e]
 refine ⟨h.bel.grown hg h.le (fun k hk => by injection hk with hk; rw [← hk]; exact hgB), Nat.le_trans h.le hs, by rw [hmap]; exact h.nd, fun p hp => ?_⟩
 obtain ⟨j, hj⟩ := List.getElem?_of_mem hp
 rw [List.getElem?_set] at hj
 by_cases e : i = j
 ·rw [if_pos e, if_pos hli] at hj
  injection hj with hj
  subst hj
  exact ⟨hgB, Nat.lt_of_lt_of_le hglt hs, hC⟩
 ·rw [if_neg e] at hj
  have hm := h.mem p (List.mem_of_getElem? hj)
  refine ⟨hm.1, Nat.lt_of_lt_of_le hm.2.1 hs, hm.2.2.kept hg hm.2.1 (fun e2 => e ?_)⟩
  injection e2 with e2
  have h1 : (bs.map (·.1))[i]? = some g := by rw [List.getElem?_map, hi]; rfl
  have h2 : (bs.map (·.1))[j]? = some g := by rw [List.getElem?_map, hj, ← e2]; rfl
  exact nodup_get h.nd h1 h2
theorem results_two {P : Program} {fn : Func} {p q : Tmp} {T : TypeId} (h : fn.results = #[.cell p T, .tmp q]) (tmps : Array Value) {w : World} {g : Nat} {l : List Value} (d : TypeDesc) (v : Value) (hp : tmps.getD p undef = pz g) (hq : tmps.getD q undef = v) (hC : Cells w g l)
  (hu : P.underlying T = some d) (hd : d.isRow = true) (n : Nat) (hi : (P.info? T).map (·.size) = some n) (hl : l.length = n) : (results fn tmps).run P w = .ok (.tuple #[.agg l.toArray, v]) w := by
 rw [← hl] at hi
 have hp' : tmps[p]?.getD undef = pz g := by simpa using hp
 have hq' : tmps[q]?.getD undef = v := by simpa using hq
 simp [results, h, hp', hq', asAddr, run_loadVar_mid w g 0 T l d hC.range hu hd hi]
theorem loadT {T m g : Nat} {w : World} {L : List Value} {d : TypeDesc} (hC : Cells w g L) (hu : Tryz.prog.underlying T = some d) (hd : d.isRow = true) (hi : (Tryz.prog.info? T).map (·.size) = some m) (hl : L.length = m) : (Instr.loadAt T (pz g)).run Tryz.prog w = .ok (.agg L.toArray) w := by
 rw [← hl] at hi
 have := run_loadVar_mid w g 0 T L _ hC.range hu hd hi
 simp only [Instr.loadAt, Instr.sureAddr, Sem.run_bind, Sem.run_pure, Result.andThen_ok, this]
section
variable {ops : Array Oper} {Q : Exit → Act → World → Prop} {n : Nat} {l fixed : List (Nat × Value)} {F : World → Prop} {es : List EntC} {i s : Nat} {o : Oper}
theorem js1 {Wp : World → Prop} {T : Nat} {x lo : Operand} {u y r : Value} (hq : ∀ w, (Instr.sliceAt T u (some y) none none).run Tryz.prog w = .ok r w) (ho : ops[i]? = some o := by rfl) (hp : o.op = .slice T x (some lo) none none := by rfl) (hd : o.dst = some s := by rfl) (hg : okG ops l o = true := by rfl) (hx : evL l x = some u := by rfl) (hy : evL l lo = some y := by rfl) : PureE ops Q n l Wp i s r :=
 fun _ _ w H _ hK => wpOp_go ho (okG_w H hg) s hd r w (run_slice_l hp (H.ev hx) (H.ev hy) (hq w)) hK
end
theorem eql_u (u v : Int) (b : Bool) (h : (u == v) = b) (x y : Operand) (w : World) : (do eqGuard .eql 5 x y (.int .u8 u) (.int .u8 v); binOp .eql 5 (.int .u8 u) (.int .u8 v) : Sem Value).run Tryz.prog w = .ok (.bool b) w := by
 rw [← h]
 simp [go_sem]
theorem Own.sub {W w : World} {B : Nat} {bs bs' : List (Nat × List Value)} (h : Own W B bs w) (hp : bs'.Sublist bs) : Own W B bs' w :=
 ⟨h.bel, h.le, (hp.map _).nodup h.nd, fun p hm => h.mem p (hp.subset hm)⟩
theorem Own.addq {W w w' : World} {B : Nat} {bs : List (Nat × List Value)} (h : Own W B bs w) {q : Nat} {L : List Value} (hg : w.grownBy w' (some q)) (hB : B ≤ q) (hlt : q < w.heap.size) (hne : ∀ p ∈ bs, p.1 ≠ q) (hC : Cells w' q L) : Own W B ((q, L) :: bs) w' := by
 refine ⟨h.bel.grown hg h.le (fun k hk => by injection hk with hk; omega), Nat.le_trans h.le hg.size, ?_, fun p hp => ?_⟩
 ·rw [List.map_cons, List.nodup_cons]
  exact ⟨fun hm => by obtain ⟨p, hp, e⟩ := List.mem_map.1 hm; exact hne p hp e, h.nd⟩
 ·rcases List.mem_cons.1 hp with rfl | hp
  ·exact ⟨hB, Nat.lt_of_lt_of_le hlt hg.size, hC⟩
  ·have hm := h.mem p hp
   exact ⟨hm.1, Nat.lt_of_lt_of_le hm.2.1 hg.size, hm.2.2.kept hg hm.2.1 (by intro e; injection e with e; exact hne p hp e)⟩
end
section
open Go.RowKit
theorem ethWithin (n m : Int) (w : World) : Calls Tryz.prog 45 #[.int .i64 n, .int .i64 m] w fun e w' => e = .returned (.bool (inR n m)) ∧ w = w' := by
 by_cases h1 : 0 ≤ n
 ·by_cases h2 : n ≤ m
  ·have H := Lib.hid (inR_iff.2 ⟨h1, h2⟩)
   go_enter Tryz.func45, Tryz.ntmps45
   go_wp2
   go_ret
   exact ⟨by rw [H.out]; rfl, rfl⟩
  ·have H := Lib.hid (Bool.eq_false_iff.2 fun h => h2 (inR_iff.1 h).2)
   go_enter Tryz.func45, Tryz.ntmps45
   go_wp2
   go_ret
   exact ⟨by rw [H.out]; rfl, rfl⟩
 ·have H := Lib.hid (Bool.eq_false_iff.2 fun h => h1 (inR_iff.1 h).1 : inR n m = false)
  go_enter Tryz.func45, Tryz.ntmps45
  go_wp2
  go_ret
  exact ⟨by rw [H.out]; rfl, rfl⟩
theorem spanIs (n : Int) (w : World) : Calls Tryz.prog 47 #[.int .i64 n] w fun e w' => e = .returned (.bool (inR n 4294967295)) ∧ w = w' := by
 by_cases h1 : 0 ≤ n
 ·by_cases h2 : n < 4294967296
  ·have H := Lib.hid (inR_iff.2 ⟨h1, show n ≤ 4294967295 by omega⟩)
   go_enter Tryz.func47, Tryz.ntmps47
   go_wp2
   go_ret
   exact ⟨by rw [H.out]; rfl, rfl⟩
  ·have H := Lib.hid (Bool.eq_false_iff.2 fun h => h2 (by have := (inR_iff.1 h).2; omega) : inR n 4294967295 = false)
   go_enter Tryz.func47, Tryz.ntmps47
   go_wp2
   go_ret
   exact ⟨by rw [H.out]; rfl, rfl⟩
 ·have H := Lib.hid (Bool.eq_false_iff.2 fun h => h1 (inR_iff.1 h).1 : inR n 4294967295 = false)
  go_enter Tryz.func47, Tryz.ntmps47
  go_wp2
  go_ret
  exact ⟨by rw [H.out]; rfl, rfl⟩
theorem macOk (n : Int) (w : World) : Calls Tryz.prog 43 #[.int .i64 n] w fun e w' => e = .returned (.bool (inR n 281474976710655)) ∧ w = w' := by
 go_enter Tryz.func43, Tryz.ntmps43
 go_wp2_with fail
 (with_reducible refine (refNum n 281474976710655 w).mono ?_)
 rintro e w' ⟨rfl, rfl⟩
 go_wp2
 go_ret
 exact ⟨rfl, rfl⟩
theorem and_r (a : Nat) (h : a < 9223372036854775808) (x y : Operand) (w : World) : (do eqGuard .and 3 x y (.int .i64 (a : Int)) (.int .i64 4294967295); binOp .and 3 (.int .i64 (a : Int)) (.int .i64 4294967295) : Sem Value).run Tryz.prog w = .ok (.int .i64 ((a % 4294967296 : Nat) : Int)) w := by
 have h1 := i64_and_nat a 4294967295 h (by decide)
 have h2 : a &&& 4294967295 = a % 4294967296 := Nat.and_two_pow_sub_one_eq_mod a 32
 rw [h2] at h1
 simp [go_sem]
 exact h1
theorem add_r (a b : Nat) (h : a + b < 9223372036854775808) (x y : Operand) (w : World) : (do eqGuard .add 3 x y (.int .i64 (a : Int)) (.int .i64 (b : Int)); binOp .add 3 (.int .i64 (a : Int)) (.int .i64 (b : Int)) : Sem Value).run Tryz.prog w = .ok (.int .i64 ((a + b : Nat) : Int)) w := by
 have : IntKind.i64.wrap ((a : Int) + (b : Int)) = ((a + b : Nat) : Int) := by rw [← Int.natCast_add]; exact IntWalk.i64_in _ (by omega)
 simp [go_sem]
 exact this
def spAdd (s n : Nat) : Nat := (s % 4294967296 + n % 4294967296) % 4294967296
theorem spAdd_lt (s n : Nat) : spAdd s n < 4294967296 := Nat.mod_lt _ (by decide)
theorem spanAdd (s n : Nat) (hs : s < 9223372036854775808) (hn : n < 9223372036854775808) (w : World) : Calls Tryz.prog 48 #[.int .i64 (s : Int), .int .i64 (n : Int)] w fun e w' => e = .returned (.int .i64 ((spAdd s n : Nat) : Int)) ∧ w = w' := by
 go_enter Tryz.func48, Tryz.ntmps48
 refine Has.start 11 [(0, .int .i64 (s : Int)), (1, .int .i64 (n : Int))] rfl rfl ⟨rfl, rfl, trivial⟩ ?_
 intro a0 H0
 refine H0.rg 1 fun a1 H1 => nt ?_
 refine H1.rg 1 fun a H => ?_
 refine H.bn 1 (and_r s hs _ _ _) fun a H => ?_
 refine H.bn 0 (and_r n hn _ _ _) fun a H => ?_
 refine H.bn 0 (add_r (s % 4294967296) (n % 4294967296) (by omega) _ _ _) fun a H => ?_
 refine H.bn 1 (and_r (s % 4294967296 + n % 4294967296) (by omega) _ _ _) fun a H => nt (wp_ret ?_)
 repeat (first | (with_reducible refine block_ret ?_) | (with_reducible refine then_ret ?_))
 exact bodyPost_ret (results_tmp rfl _ _ _) H.df ⟨congrArg Ending.returned (H.at_ 4 _ rfl), rfl⟩
end
section
open Go.RowKit
theorem sub1_i (k : Nat) (h : 1 ≤ k) (h2 : k < 9223372036854775807) (x y : Operand) (w : World) : (do eqGuard .sub 3 x y (iz k) (iz 1); binOp .sub 3 (iz k) (iz 1) : Sem Value).run Tryz.prog w = .ok (iz ((k - 1 : Nat) : Int)) w := by
 have : IntKind.i64.wrap ((k : Int) - 1) = ((k - 1 : Nat) : Int) := by rw [show (k : Int) - 1 = ((k - 1 : Nat) : Int) by omega]; exact IntWalk.i64_in _ (by omega)
 simp [go_sem]
 exact this
theorem mul8_i (k : Nat) (h : k ≤ 7) (x y : Operand) (w : World) : (do eqGuard .mul 3 x y (iz 8) (iz k); binOp .mul 3 (iz 8) (iz k) : Sem Value).run Tryz.prog w = .ok (iz ((8 * k : Nat) : Int)) w := by
 have : IntKind.i64.wrap (8 * (k : Int)) = ((8 * k : Nat) : Int) := by rw [show 8 * (k : Int) = ((8 * k : Nat) : Int) by omega]; exact IntWalk.i64_in _ (by omega)
 simp [go_sem]
 exact this
theorem shr_i (n k : Nat) (h : k ≤ 7) (x y : Operand) (w : World) : (do eqGuard .shr 3 x y (iz n) (iz ((8 * k : Nat) : Int)); binOp .shr 3 (iz n) (iz ((8 * k : Nat) : Int)) : Sem Value).run Tryz.prog w = .ok (iz ((n / 256 ^ k : Nat) : Int)) w := by
 have := bigI k n
 simp [go_sem]
 have e : (8 * (k : Int)).toNat = 8 * k := by omega
 rw [e, this]
 simp
theorem ethPut (b : Nat) (xs : List UInt8) (v : Value) (k n : Nat) (hk : k ≤ 7) (_hn : n < 9223372036854775808) (w : World) (hv : RowIs b xs v w) (hb : b ≤ w.heap.size) (hl : xs.length ≤ 140737488251232) :
  Calls Tryz.prog 137 #[v, iz k, iz n] w fun e w' => ∃ v', e = .returned v' ∧ (RowIs b (xs ++ big k n) v' w' ∧ Below b w w') := by
 go_enter Tryz.func137, Tryz.ntmps137
 refine Has.start 22 [(0, v), (1, iz k), (2, iz n)] rfl rfl ⟨rfl, rfl, rfl, trivial⟩ ?_
 intro a0 H0
 refine H0.rg 1 fun a1 H1 => nt ?_
 refine wp_scope_one (k := 0) rfl (fun a w' => ∃ i v', i ≤ k ∧ Has a 22 [(0, v'), (2, iz n), (7, iz i)] ∧ RowIs b (xs ++ (big k n).take (k - i)) v' w' ∧ Below b w w') (fun a _ => (intOf (a.tmps.getD 7 undef)).toNat) ?_ ?_
 ·intro hpass
  refine H1.rg 2 fun a2 H2 => nt ?_
  refine wp_seq (label_wp (then_normal ?_))
  exact hpass _ _ ⟨k, v, Nat.le_refl _, H2.keep ⟨rfl, rfl, rfl, trivial⟩, by simpa using hv, Below.refl _ _⟩
 ·rintro a1 w1 ⟨i, v1, hi, H1, hr, hb1⟩
  have hmu : (intOf (a1.tmps.getD 7 undef)).toNat = i := by rw [show a1.tmps.getD 7 undef = iz i from H1.at_ 7 _ rfl]; simp [intOf]
  rw [hmu]
  refine H1.rg 1 fun a2 H2 => ?_
  by_cases h0 : i = 0
  ·subst h0
   refine H2.bb 0 rfl rfl rfl rfl rfl rfl (gtr_i _ _ false rfl _ _ _) rfl fun a3 H3 => nt (H3.condF rfl ?_)
   refine skip_wp (then_normal ?_)
   refine H3.rg 2 fun a4 H4 => nt (wp_ret ?_)
   repeat (first | (with_reducible refine jump_ret ?_) | (with_reducible refine then_ret ?_))
   rw [Nat.sub_zero, List.take_of_length_le (by rw [big_length]; exact Nat.le_refl _)] at hr
   exact bodyPost_ret (results_tmp rfl _ _ _) H4.df ⟨v1, congrArg Ending.returned (H4.at_ 6 _ rfl), hr, hb1⟩
  refine H2.bb 0 rfl rfl rfl rfl rfl rfl (gtr_i _ _ true (by rw [decide_eq_true_iff]; omega) _ _ _) rfl fun a3 H3 => nt (H3.condT rfl ?_)
  refine H3.rg 1 fun a4 H4 => ?_
  refine H4.bn 1 (sub1_i i (by omega) (by omega) _ _ _) fun a5 H5 => nt ?_
  replace H5 := H5.kp [0, 2, 7]
  have hbb : [Value.int .u8 (((n / 256 ^ (i - 1) : Nat) : Int) % 256)] = [UInt8.ofNat (n / 256 ^ (i - 1))].map bv := by
   rw [byte_of_int _ (Int.natCast_nonneg _), Int.toNat_natCast]
   rfl
  refine H5.rg 3 fun a H => ?_
  refine H.bn 0 (mul8_i (i - 1) (by omega) _ _ _) fun a H => ?_
  refine H.bn 0 (shr_i n (i - 1) (by omega) _ _ _) fun a H => ?_
  refine H.cv 0 (conv_u8 _ _) fun a H => ?_
  refine H.bytes gz rfl rfl [UInt8.ofNat (n / 256 ^ (i - 1))] [.int .u8 (((n / 256 ^ (i - 1) : Nat) : Int) % 256)] hbb rfl 5 (by intro cs b h; cases h) (by kernel_rfl) (by kernel_rfl) ?_
  intro a v2 w2 H hby hb2
  have hs1 := hb1.size
  have hr2 := hr.below hb2
  refine H.appendRow Tryz.underlying31 info_u8 (gz rfl) rfl rfl rfl rfl rfl hr2 hby (by rw [List.length_append, List.length_take, big_length]; simp; omega) (Nat.le_trans (Nat.le_trans hb hs1) hb2.size) ?_
  intro a v3 w3 H hr3 hb3 _
  refine H.ms 1 fun a H => nt ?_
  refine wp_goto ?_
  repeat (with_reducible refine then_goto ?_)
  refine jump_goto ⟨⟨i - 1, v3, by omega, H.keep ⟨rfl, rfl, rfl, trivial⟩, ?_, (hb1.trans (hb2.mono (Nat.le_trans hb hs1))).trans hb3⟩, ?_⟩
  ·have e := big_take_snoc k n (k - i) (by omega)
   rw [show k - i + 1 = k - (i - 1) by omega, show k - 1 - (k - i) = i - 1 by omega] at e
   rw [e, ← List.append_assoc]
   exact hr3
  ·rw [show a.tmps.getD 7 undef = iz ((i - 1 : Nat) : Int) from H.at_ 7 _ rfl]
   simp [intOf]
   omega
theorem ethBytes (d s t : Nat) (xs : List UInt8) (A : Option Addr) (c : Nat) (w : World) (hd : d < 281474976710656) (hs : s < 281474976710656) (ht : t < 65536) (hx : RB w w.heap.size A xs) (hl : xs.length ≤ 1500) :
  Calls Tryz.prog 116 #[.agg #[iz d, iz s, iz t, .slice A xs.length c]] w fun e w' => ∃ v, e = .returned v ∧ (∃ vr, v = .tuple #[vr, iz 0] ∧ RowIs w.heap.size (frBytes d s t xs) vr w' ∧ Below w.heap.size w w') := by
 go_enter Tryz.func116, Tryz.ntmps116
 refine Has.start 38 [(0, .agg #[iz d, iz s, iz t, .slice A xs.length c])] rfl rfl ⟨rfl, trivial⟩ ?_
 intro a0 H0
 have O0 := Own.start w
 refine rl ?_
 refine H0.bx O0 2 (L := [iz d, iz s, iz t, .slice A xs.length c]) fun a1 w1 O1 H1 => nt ?_
 generalize hg : w.heap.size = g at O1 H1
 have e1 : inR (d : Int) 281474976710655 = true := inR_iff.2 ⟨by omega, by omega⟩
 have e2 : inR (s : Int) 281474976710655 = true := inR_iff.2 ⟨by omega, by omega⟩
 have e3 : inR (t : Int) 65535 = true := inR_iff.2 ⟨by omega, by omega⟩
 have c3 : ∀ {w' : World}, Own w g [(g, [iz d, iz s, iz t, .slice A xs.length c])] w' → w'.cell? ⟨g, 3, none⟩ = some (.slice A xs.length c) := fun h => (h.get 0 rfl).get 3 _ rfl
 refine H1.tb (Own w g [(g, [iz d, iz s, iz t, .slice A xs.length c])]) (fun _ _ h hb => h.call hb) O1
  [ec 0 4 (pz g), ec 1 5 (iz d), ec 2 6 (.bool true), ec 3 7 (.bool false), ec 4 8 (.bool false), ec 5 9 (.pointer (some ⟨g, 1, none⟩)), ec 6 10 (iz s), ec 7 11 (.bool true), ec 8 12 (.bool false), ec 9 13 (.bool false), ec 10 14 (.bool false),
   ec 11 15 (.pointer (some ⟨g, 2, none⟩)), ec 12 16 (iz t), ec 13 17 (.bool true), ec 14 18 (.bool false), ec 15 19 (.bool false), ec 16 20 (.bool false), ec 17 21 (.pointer (some ⟨g, 3, none⟩)), ec 18 22 (.slice A xs.length c), ec 19 23 (iz xs.length), ec 20 24 (.bool false), ec 21 25 (.bool false)] rfl
  ⟨jm, jl fun _ h => h.li 0 0, jq fun w' _ => e1 ▸ ethWithin _ _ w', ju (hq := run_not true), jm, jm, jl fun _ h => h.li 0 1, jq fun w' _ => e2 ▸ ethWithin _ _ w', ju (hq := run_not true), jp, jm, jm, jl fun _ h => h.li 0 2, jq fun w' _ => e3 ▸ ethWithin _ _ w', ju (hq := run_not true), jp, jm, jm, jl fun _ h => load1_31 _ _ _ _ _ _ (c3 h), jn Tryz.underlying31, jb fun _ => gtr_i ((xs.length : Nat) : Int) 1500 false (decide_eq_false (by omega)) _ _ _, jp, trivial⟩ ?_
 intro a2 w2 H2 O2
 refine then_normal (H2.condF rfl (skip_wp (then_normal ?_)))
 replace H2 := H2.kp [1]
 clear H0 O0 H1 O1
 obtain ⟨b0, hb0⟩ : ∃ b0, b0 = w2.heap.size := ⟨_, rfl⟩
 have hgb : g < b0 := by rw [hb0]; exact O2.lt 0 rfl
 refine H2.sg (fun w' => Own w g [(g, [iz d, iz s, iz t, .slice A xs.length c])] w' ∧ b0 ≤ w'.heap.size) ⟨O2.drew, Nat.le_of_eq hb0⟩ [1]
  [ec 0 26 (pz g), ec 1 27 (iz d), ec 3 29 (.pointer (some ⟨g, 1, none⟩)), ec 4 30 (iz s), ec 6 32 (.pointer (some ⟨g, 2, none⟩)), ec 7 33 (iz t), ec 9 35 (.pointer (some ⟨g, 3, none⟩)), ec 10 36 (.slice A xs.length c), ec 13 3 (iz 0)] rfl ?_
 refine St.call 2 ⟨jm, jl fun _ h => h.1.li 0 0, jm, jl fun _ h => h.1.li 0 1, jm, jl fun _ h => h.1.li 0 2, jm, jl fun _ h => load1_31 _ _ _ _ _ _ (c3 h.1), jm, trivial⟩ (fun wy h => ethPut b0 [] nilV 6 d (by decide) (by omega) wy ⟨none, 0, rfl, World.ownsRow_nil _ _ _ _⟩ h.2 (by decide)) ?_
 rintro wy v1 wz hh ⟨hr, hb⟩
 refine nx (fun w' => (Own w g [(g, [iz d, iz s, iz t, .slice A xs.length c])] w' ∧ b0 ≤ w'.heap.size) ∧ RowIs b0 (big 6 d) v1 w') [] [] ⟨⟨own_under hh.1 hb (Nat.le_of_lt hgb) (fun p hp => by rw [List.mem_singleton.1 hp]; exact hgb), Nat.le_trans hh.2 hb.size⟩, hr⟩ ?_
 refine St.call 5 ⟨jm, jl fun _ h => h.1.1.li 0 1, jm, jl fun _ h => h.1.1.li 0 2, jm, jl fun _ h => load1_31 _ _ _ _ _ _ (c3 h.1.1), jm, trivial⟩ (fun wy h => ethPut b0 (big 6 d) v1 6 s (by decide) (by omega) wy h.2 h.1.2 (by rw [big_length]; decide)) ?_
 rintro wy v2 wz ⟨hh, _⟩ ⟨hr, hb⟩
 refine nx (fun w' => (Own w g [(g, [iz d, iz s, iz t, .slice A xs.length c])] w' ∧ b0 ≤ w'.heap.size) ∧ RowIs b0 (big 6 d ++ big 6 s) v2 w') [] [] ⟨⟨own_under hh.1 hb (Nat.le_of_lt hgb) (fun p hp => by rw [List.mem_singleton.1 hp]; exact hgb), Nat.le_trans hh.2 hb.size⟩, hr⟩ ?_
 refine St.call 8 ⟨jm, jl fun _ h => h.1.1.li 0 2, jm, jl fun _ h => load1_31 _ _ _ _ _ _ (c3 h.1.1), jm, trivial⟩ (fun wy h => ethPut b0 (big 6 d ++ big 6 s) v2 2 t (by decide) (by omega) wy h.2 h.1.2 (by simp [big_length])) ?_
 rintro wy v3 wz ⟨hh, _⟩ ⟨⟨A3, c3', rfl, hO3⟩, hb⟩
 refine nx (fun w' => (Own w g [(g, [iz d, iz s, iz t, .slice A xs.length c])] w' ∧ b0 ≤ w'.heap.size) ∧ w'.ownsRow b0 5 1 (.slice A3 (big 6 d ++ big 6 s ++ big 2 t).length c3') (big 6 d ++ big 6 s ++ big 2 t).length ((big 6 d ++ big 6 s ++ big 2 t).map bv)) [] [] ⟨⟨own_under hh.1 hb (Nat.le_of_lt hgb) (fun p hp => by rw [List.mem_singleton.1 hp]; exact hgb), Nat.le_trans hh.2 hb.size⟩, hO3⟩ ?_
 refine St.app 11 info_u8 ⟨jm, jl fun _ h => load1_31 _ _ _ _ _ _ (c3 h.1.1), jm, trivial⟩ (fun w' h => ⟨h.2, hx.next (hg ▸ h.1.1.bel), h.1.2⟩) (bv_one xs) (by unfold maxLen; simp [big_length]; omega) ?_
 intro wu A' c' wv h hO hgr
 rw [← List.map_append] at hO
 refine nx (fun w' => Own w g [(g, [iz d, iz s, iz t, .slice A xs.length c])] w' ∧ w'.ownsRow b0 5 1 (.slice A' ((big 6 d ++ big 6 s ++ big 2 t).length + xs.length) c') ((big 6 d ++ big 6 s ++ big 2 t).length + xs.length) ((big 6 d ++ big 6 s ++ big 2 t ++ xs).map bv)) [ec 12 2 (.slice A' ((big 6 d ++ big 6 s ++ big 2 t).length + xs.length) c')] [] ⟨h.1.1.row h.2 (Nat.le_of_lt hgb) hgr (fun p hp => by rw [List.mem_singleton.1 hp]; exact own_ne h.2 (.inl hgb)), hO⟩ ?_
 refine St.fin ⟨jm, jm, trivial⟩ ?_ (hF := .inl rfl)
 rintro a3 w3 H3 _ ⟨O3, hO⟩
 refine then_normal (wp_ret ?_)
 repeat (first | (with_reducible refine block_ret ?_) | (with_reducible refine then_ret ?_))
 refine bodyPost_ret (results_pair rfl _ _ _ (H3.at_ 2 _ rfl) (H3.at_ 3 _ rfl)) H3.df ⟨_, rfl, _, rfl, ?_, O3.bel⟩
 have e : frBytes d s t xs = big 6 d ++ big 6 s ++ big 2 t ++ xs := by simp [frBytes]
 rw [e]
 exact RowIs.of (List.length_append ..) (own_base hO (Nat.le_of_lt hgb))
end
section
open Go.RowKit
theorem sg_okN (sp dp sq ak fl wn : Nat) (xs : List UInt8) (h1 : sp ≤ 65535) (h2 : dp ≤ 65535) (h3 : sq ≤ 4294967295) (h4 : ak ≤ 4294967295) (h5 : fl ≤ 63) (h6 : wn ≤ 65535) (h7 : xs.length ≤ 1460) : Sg.ok ⟨sp, dp, sq, ak, fl, wn, xs⟩ = true := by
 have k : ∀ {n m : Nat}, n ≤ m → (0 : Int) ≤ (n : Int) ∧ (n : Int) ≤ ((m : Nat) : Int) := fun h => by omega
 exact Sg.ok_iff.2 ⟨k h1, k h2, k h3, k h4, k h5, k h6, h7⟩
abbrev cliC (ip mac port iss next wants : Nat) (up : Bool) (vg vl : Value) : List Value := [iz ip, iz mac, iz port, iz iss, iz next, iz wants, .bool up, vg, vl]
theorem cliFrame (g ip mac port iss next wants : Nat) (up : Bool) (vg vl : Value) (t : Nat) (xs : List UInt8) (n : Nat) (hn : xs.length = n) (A : Option Addr) (c : Nat) (w : World) (hC : Cells w g (cliC ip mac port iss next wants up vg vl)) (hm : mac < 281474976710656) (ht : t < 65536) (hx : RB w w.heap.size A xs) (hl : n ≤ 1500) :
  Calls Tryz.prog 84 #[pz g, iz t, .slice A n c] w fun e w' => ∃ v, e = .returned v ∧ (RowIs w.heap.size (frBytes 2199023255553 mac t xs) v w' ∧ Below w.heap.size w w') := by
 subst hn
 go_enter Tryz.func84, Tryz.ntmps84
 refine Has.start 21 [(0, pz g), (1, iz t), (2, .slice A xs.length c)] rfl rfl ⟨rfl, rfl, rfl, trivial⟩ ?_
 intro a0 H0
 refine H0.rg 1 fun a1 H1 => nt ?_
 refine H1.rg 3 fun a H => ?_
 refine H.ld 2 (load1_i _ _ _ _ (hC.get 1 _ rfl)) fun a H => ?_
 refine H.any (w' := w) gz rfl rfl (.agg #[iz 2199023255553, iz mac, iz t, .slice A xs.length c]) (by intro cs b h; cases h) (by kernel_rfl) (by kernel_rfl) fun a H => ?_
 refine H.cl (ethBytes 2199023255553 mac t xs A c w (by decide) hm ht hx hl) ?_
 rintro a _ w1 ⟨vr, rfl, hr, hb⟩ H
 refine H.ms 1 fun a H => ?_
 refine H.ex (r := vr) 0 fun a H => ?_
 refine H.ex (r := iz 0) 2 fun a H => nt ?_
 refine H.rg 2 fun a H => nt (wp_ret ?_)
 repeat (first | (with_reducible refine block_ret ?_) | (with_reducible refine then_ret ?_))
 exact bodyPost_ret (results_tmp rfl _ _ _) H.df ⟨vr, congrArg Ending.returned (H.at_ 6 _ rfl), hr, hb⟩
theorem segBytesC (src dst sp dp sq ak fl wn : Nat) (xs : List UInt8) (A : Option Addr) (c : Nat) (h : Sg.ok ⟨sp, dp, sq, ak, fl, wn, xs⟩ = true) (hs : src < 4294967296) (hd : dst < 4294967296) (w : World) (hx : RB w w.heap.size A xs) :
  Calls Tryz.prog 82 #[iz src, iz dst, .agg #[iz sp, iz dp, iz sq, iz ak, iz fl, iz wn, .slice A xs.length c]] w fun e w' => ∃ v, e = .returned v ∧ (∃ A' c', v = .tuple #[.slice A' (20 + xs.length) c', iz 0] ∧ w'.ownsRow w.heap.size 5 1 (.slice A' (20 + xs.length) c') (20 + xs.length) ((sgBytes src dst sp dp sq ak fl wn xs).map bv) ∧ Below w.heap.size w w') :=
 (segBytes src dst sp dp sq ak fl wn xs xs.length rfl A c h hs hd w hx).mono fun _ _ ⟨A', c', h1, h2, h3⟩ => ⟨_, h1, A', c', rfl, h2, h3⟩
theorem ipBytesC (s d p t i : Nat) (xs : List UInt8) (n : Nat) (hl : xs.length = n) (A : Option Addr) (c : Nat) (h : Pk.ok ⟨s, d, p, t, i, xs⟩ = true) (w : World) (hx : RB w w.heap.size A xs) :
  Calls Tryz.prog 83 #[.agg #[iz s, iz d, iz p, iz t, iz i, .slice A n c]] w fun e w' => ∃ v, e = .returned v ∧ (∃ A' c', v = .tuple #[.slice A' (20 + n) c', iz 0] ∧ w'.ownsRow w.heap.size 5 1 (.slice A' (20 + n) c') (20 + n) ((ipHead s d p t i n ++ xs).map bv) ∧ Below w.heap.size w w') :=
 (ipBytes s d p t i xs n hl A c h w hx).mono fun _ _ ⟨A', c', h1, h2, h3⟩ => ⟨_, h1, A', c', rfl, h2, h3⟩
theorem cliSegment (g ip mac port iss next wants : Nat) (up : Bool) (vg vl : Value) (sq ak fl : Nat) (xs : List UInt8) (n : Nat) (hn : xs.length = n) (A : Option Addr) (c : Nat) (w : World) (hC : Cells w g (cliC ip mac port iss next wants up vg vl)) (hg : g < w.heap.size) (hip : ip < 4294967296) (hm : mac < 281474976710656)
  (hq : Sg.ok ⟨port, 1883, sq, ak, fl, 65535, xs⟩ = true) (hx : RB w w.heap.size A xs) :
  Calls Tryz.prog 49 #[pz g, iz sq, iz ak, iz fl, .slice A n c] w fun e w' => ∃ v, e = .returned v ∧ (RowIs w.heap.size (wire 2199023255553 mac ip 167772161 ⟨port, 1883, sq, ak, fl, 65535, xs⟩) v w' ∧ Below w.heap.size w w') := by
 subst hn
 have hl : xs.length ≤ 1460 := (Sg.ok_iff.1 hq).2.2.2.2.2.2
 have cc : ∀ {w' : World} (j : Nat) (v : Value), Below w.heap.size w w' → (cliC ip mac port iss next wants up vg vl)[j]? = some v → w'.cell? ⟨g, j, none⟩ = some v := fun j v h hj => (hC.below h hg).get j v hj
 go_enter Tryz.func49, Tryz.ntmps49
 refine Has.start 45 [(0, pz g), (1, iz sq), (2, iz ak), (3, iz fl), (4, .slice A xs.length c)] rfl rfl ⟨rfl, rfl, rfl, rfl, rfl, trivial⟩ ?_
 intro a0 H0
 refine H0.rg 1 fun a1 H1 => nt ?_
 refine H1.sg (fun w' => Below w.heap.size w w') (Below.drew (Below.refl _ _)) [0, 1, 2, 3, 4]
  [ec 0 16 (pz g), ec 1 17 (pz g), ec 2 18 (pz g), ec 3 19 (iz ip), ec 4 20 (pz g), ec 5 21 (pz g), ec 6 22 (.pointer (some ⟨g, 2, none⟩)), ec 7 23 (iz port),
   ec 8 24 (iz sq), ec 9 25 (iz ak), ec 10 26 (iz fl), ec 11 27 (.slice A xs.length c), ec 12 28 (.agg #[iz port, iz ((1883 : Nat) : Int), iz sq, iz ak, iz fl, iz ((65535 : Nat) : Int), .slice A xs.length c])] rfl ?_
 refine St.call 13 ⟨jm, jm, jm, jl fun _ h => load1_i _ _ _ _ (cc 0 _ h rfl), jm, jm, jm, jl fun _ h => load1_i _ _ _ _ (cc 2 _ h rfl), jm, jm, jm, jm, ja (fun _ => by kernel_rfl), trivial⟩ (fun wy h => segBytesC ip 167772161 port 1883 sq ak fl 65535 xs A c hq hip (by decide) wy (hx.next h)) ?_
 rintro wy _ wz hb1 ⟨A1, c1, rfl, hO1, hb2⟩
 have hs1 := hb1.size
 generalize hbd : wy.heap.size = bb at hO1 hb2 hs1
 refine nx (fun w' => Below w.heap.size w w' ∧ w'.ownsRow bb 5 1 (.slice A1 (20 + xs.length) c1) (20 + xs.length) ((sgBytes ip 167772161 port 1883 sq ak fl 65535 xs).map bv) ∧ bb ≤ w'.heap.size)
  [ec 14 15 (.tuple #[.slice A1 (20 + xs.length) c1, iz 0]), ec 15 30 (.slice A1 (20 + xs.length) c1), ec 16 31 (iz 0), ec 17 11 (.slice A1 (20 + xs.length) c1), ec 18 12 (iz 0)] [] ⟨hb1.trans (hb2.mono hs1), hO1, hbd ▸ hb2.size⟩ ?_
 refine St.fin ⟨jm, jx, jx, jm, jm, trivial⟩ ?_ (hF := .inl rfl)
 rintro a2 w2 H2 _ ⟨hb, hO, hs⟩
 refine then_normal ?_
 replace H2 := H2.kp [0, 11]
 have hr2 := rb_of_own (sgBytes_length ip 167772161 port 1883 sq ak fl 65535 xs) hO hs
 have hpk := wire_ip (src := ip) (dst := 167772161) (q := ⟨port, 1883, sq, ak, fl, 65535, xs⟩) hip (by decide) hl
 refine H2.rg 3 fun a H => ?_
 refine H.ld 1 (load1_i _ _ _ _ (cc 0 _ hb rfl)) fun a H => ?_
 refine H.any (w' := w2) gz rfl rfl (.agg #[iz ip, iz ((167772161 : Nat) : Int), iz ((6 : Nat) : Int), iz ((64 : Nat) : Int), iz ((0 : Nat) : Int), .slice A1 (20 + xs.length) c1]) (by intro cs b h; cases h) (by kernel_rfl) (by kernel_rfl) fun a H => ?_
 refine H.cl (ipBytesC ip 167772161 6 64 0 (sgBytes ip 167772161 port 1883 sq ak fl 65535 xs) (20 + xs.length) (sgBytes_length ..) A1 c1 hpk w2 hr2) ?_
 rintro a _ w3 ⟨A2, c2, rfl, hO2, hb3⟩ H
 have hbb3 := hb.trans (hb3.mono hb.size)
 refine H.ms 1 fun a H => ?_
 refine H.ex (r := .slice A2 (20 + (20 + xs.length)) c2) 0 fun a H => ?_
 refine H.ex (r := iz 0) 2 fun a H => nt ?_
 have hlen : (ipHead ip 167772161 6 64 0 (20 + xs.length) ++ sgBytes ip 167772161 port 1883 sq ak fl 65535 xs).length = 20 + (20 + xs.length) := by rw [List.length_append, ipHead_length, sgBytes_length]
 have hr3 := rb_of_own hlen hO2 hb3.size
 refine H.rg 2 fun a H => ?_
 refine H.cl (cliFrame g ip mac port iss next wants up vg vl 2048 _ _ hlen A2 c2 w3 (hC.below hbb3 hg) hm (by decide) hr3 (by omega)) ?_
 rintro a v w4 ⟨hr4, hb4⟩ H
 refine H.ms 1 fun a H => nt (wp_ret ?_)
 repeat (first | (with_reducible refine block_ret ?_) | (with_reducible refine then_ret ?_))
 refine bodyPost_ret (results_tmp rfl _ _ _) H.df ⟨v, congrArg Ending.returned (H.at_ 10 _ rfl), ?_, hbb3.trans (hb4.mono hbb3.size)⟩
 have e : wire 2199023255553 mac ip 167772161 ⟨port, 1883, sq, ak, fl, 65535, xs⟩ = frBytes 2199023255553 mac 2048 (ipHead ip 167772161 6 64 0 (20 + xs.length) ++ sgBytes ip 167772161 port 1883 sq ak fl 65535 xs) := by
  rw [← sgBytes_length ip 167772161 port 1883 sq ak fl 65535 xs]
  rfl
 rw [e]
 exact hr4.base hbb3.size
end
section
open Go.RowKit
theorem cliNew (ip mac port iss : Nat) (hip : ip < 4294967296) (hm : mac < 281474976710656) (hp : port < 65536) (hi : iss < 4294967296) (w : World) :
  Calls Tryz.prog 8 #[iz ip, iz mac, iz port, iz iss] w fun e w' => ∃ v, e = .returned v ∧ (∃ g, v = .tuple #[pz g, iz 0] ∧ Own w w.heap.size [(g, cliC ip mac port iss (spAdd iss 1) 0 false nilV nilV)] w') := by
 have h1 : inR (ip : Int) 4294967295 = true := inR_iff.2 ⟨by omega, by omega⟩
 have h2 : inR (mac : Int) 281474976710655 = true := inR_iff.2 ⟨by omega, by omega⟩
 have h3 : inR (port : Int) 65535 = true := inR_iff.2 ⟨by omega, by omega⟩
 have h4 : inR (iss : Int) 4294967295 = true := inR_iff.2 ⟨by omega, by omega⟩
 go_enter Tryz.func8, Tryz.ntmps8
 refine Has.start 36 [(0, iz ip), (1, iz mac), (2, iz port), (3, iz iss)] rfl rfl ⟨rfl, rfl, rfl, rfl, trivial⟩ ?_
 intro a0 H0
 have O0 := Own.start w
 refine H0.rg 2 fun a1 H1 => nt ?_
 refine H1.tb (Own w w.heap.size []) (fun _ _ h hb => h.call hb) O0
  [ec 0 10 (iz ip), ec 1 11 (.bool true), ec 2 12 (.bool false), ec 3 13 (.bool false), ec 4 14 (iz mac), ec 5 15 (.bool true), ec 6 16 (.bool false), ec 7 17 (.bool false), ec 8 18 (.bool false),
   ec 9 19 (iz port), ec 10 20 (.bool true), ec 11 21 (.bool false), ec 12 22 (.bool false), ec 13 23 (.bool false), ec 14 24 (iz iss), ec 15 25 (.bool true), ec 16 26 (.bool false), ec 17 27 (.bool false)] rfl
  ⟨jm, jq fun w' _ => h1 ▸ segIP ip w', ju (hq := run_not true), jm, jm, jq fun w' _ => h2 ▸ ethWithin mac 281474976710655 w', ju (hq := run_not true), jp, jm, jm, jq fun w' _ => h3 ▸ segPort port w', ju (hq := run_not true), jp, jm, jm, jq fun w' _ => h4 ▸ spanIs iss w', ju (hq := run_not true), jp, trivial⟩ ?_
 intro a2 w2 H2 O2
 refine then_normal (H2.condF rfl (skip_wp (then_normal ?_)))
 replace H2 := H2.kp [0, 1, 2, 3]
 refine H2.rg 5 fun a H => ?_
 refine H.cq 0 (spanAdd iss 1 (by omega) (by decide) _) fun a H => ?_
 refine H.any (w' := w2) gz rfl rfl (.agg (cliC ip mac port iss (spAdd iss 1) 0 false nilV nilV).toArray) (by intro cs b h; cases h) (by kernel_rfl) (by kernel_rfl) fun a H => ?_
 refine H.bx O2 2 (L := cliC ip mac port iss (spAdd iss 1) 0 false nilV nilV) fun a w3 O3 H => nt (wp_ret ?_)
 repeat (first | (with_reducible refine block_ret ?_) | (with_reducible refine then_ret ?_))
 exact bodyPost_ret (results_pair rfl _ _ _ (H.at_ 8 _ rfl) (H.at_ 9 _ rfl)) H.df ⟨_, rfl, _, rfl, O3⟩
theorem cliUp (g ip mac port iss next wants : Nat) (up : Bool) (vg vl : Value) (w : World) (hC : Cells w g (cliC ip mac port iss next wants up vg vl)) : Calls Tryz.prog 14 #[pz g] w fun e w' => e = .returned (.bool up) ∧ w = w' := by
 go_enter Tryz.func14, Tryz.ntmps14
 refine Has.start 7 [(0, pz g)] rfl rfl ⟨rfl, trivial⟩ ?_
 intro a0 H0
 refine H0.rg 1 fun a1 H1 => nt ?_
 refine H1.rg 3 fun a H => ?_
 refine H.ld 1 (load1_b _ _ _ _ (hC.get 6 _ rfl)) fun a H => nt (wp_ret ?_)
 repeat (first | (with_reducible refine block_ret ?_) | (with_reducible refine then_ret ?_))
 exact bodyPost_ret (results_tmp rfl _ _ _) H.df ⟨congrArg Ending.returned (H.at_ 2 _ rfl), rfl⟩
theorem cliDial (g ip mac port iss next wants : Nat) (up : Bool) (vg vl : Value) (w : World) (hC : Cells w g (cliC ip mac port iss next wants up vg vl)) (hg : g < w.heap.size) (hip : ip < 4294967296) (hm : mac < 281474976710656) (hp : port < 65536) (hi : iss < 4294967296) :
  Calls Tryz.prog 10 #[pz g] w fun e w' => ∃ v, e = .returned v ∧ (RowIs w.heap.size (wire 2199023255553 mac ip 167772161 ⟨port, 1883, iss, 0, 2, 65535, []⟩) v w' ∧ w.grownBy w' (some g) ∧ Cells w' g (cliC ip mac port iss (spAdd iss 1) wants false nilV nilV)) := by
 have hq : Sg.ok ⟨port, 1883, (iss : Nat), ((0 : Nat) : Int), ((2 : Nat) : Int), 65535, []⟩ = true := sg_okN port 1883 iss 0 2 65535 [] (by omega) (by decide) (by omega) (by decide) (by decide) (by decide) (by decide)
 go_enter Tryz.func10, Tryz.ntmps10
 refine Has.start 26 [(0, pz g)] rfl rfl ⟨rfl, trivial⟩ ?_
 intro a0 H0
 refine H0.rg 1 fun a1 H1 => nt ?_
 refine H1.rg 7 fun a H => ?_
 refine H.ld 0 (load1_i _ _ _ _ (hC.get 3 _ rfl)) fun a H => ?_
 refine H.cq 2 (spanAdd iss 1 (by omega) (by decide) _) fun a H => ?_
 refine H.put1 hC 2 (fun u h1 h2 => store1_i _ _ _ u _ h1 h2) fun a w1 C1 g1 H => ?_
 refine H.put1 C1 2 (fun u h1 h2 => store1_b _ _ _ u _ h1 h2) fun a w2 C2 g2 H => ?_
 refine H.put1 C2 2 (fun u h1 h2 => store1_31 _ _ _ _ _ u _ h1 h2) fun a w3 C3 g3 H => ?_
 refine H.put1 C3 0 (fun u h1 h2 => store1_31 _ _ _ _ _ u _ h1 h2) fun a w4 C4 g4 H => nt ?_
 have C4 : Cells w4 g (cliC ip mac port iss (spAdd iss 1) wants false nilV nilV) := C4
 have hg4 := ((g1.trans g2).trans g3).trans g4
 have hs4 := hg4.size
 replace H := H.kp [0]
 refine H.rg 4 fun a H => ?_
 refine H.ld 0 (load1_i _ _ _ _ (C4.get 3 _ rfl)) fun a H => ?_
 refine H.cl (cliSegment g ip mac port iss (spAdd iss 1) wants false nilV nilV iss 0 2 [] 0 rfl none 0 w4 C4 (by omega) hip hm hq RB.nil) ?_
 rintro a v w5 ⟨hr, hb⟩ H
 refine H.ms 1 fun a H => nt (wp_ret ?_)
 repeat (first | (with_reducible refine block_ret ?_) | (with_reducible refine then_ret ?_))
 exact bodyPost_ret (results_tmp rfl _ _ _) H.df ⟨v, congrArg Ending.returned (H.at_ 2 _ rfl), hr.base hs4, hg4.trans (below_grown hb _), C4.below hb (by omega)⟩
end
section
open Ieee
def fl (n : Nat) : Nat := floatOfInt .f64 (n : Int)
theorem fl_eq (n : Nat) : fl n = double.nearest false n 0 := by
 unfold fl floatOfInt
 show double.write (.number (decide ((n : Int) < 0)) (n : Int).natAbs 0) = _
 have h : decide ((n : Int) < 0) = false := decide_eq_false (by omega)
 rw [h]
 rfl
theorem dbl_binade : double.binade = 4503599627370496 := by decide
theorem dbl_inf : double.infRung = 9218868437227405312 := by decide
theorem dbl_sign : double.signWeight = 9223372036854775808 := by decide
theorem dbl_least : double.leastPlace = -1074 := by decide
theorem read_zero : double.read 0 = .number false 0 (-1074) := by decide
theorem fl_zero : fl 0 = 0 := by
 rw [fl_eq]
 unfold Format.nearest
 rw [if_pos rfl]
 rfl
theorem read_rung (L N : Nat) (hL : L ≤ 52) (hN1 : 4503599627370496 ≤ N) (hN2 : N < 9007199254740992) : double.read ((L + 1022) * 4503599627370496 + N) = .number false N (-((52 - L : Nat) : Int)) := by
 obtain ⟨R, hR⟩ : ∃ R, R = (L + 1022) * 4503599627370496 + N := ⟨_, rfl⟩
 have r1 : R / 9223372036854775808 = 0 := by omega
 have r2 : R % 9223372036854775808 = R := by omega
 have r3 : R / 4503599627370496 = L + 1023 := by omega
 have r4 : R % 4503599627370496 = N - 4503599627370496 := by omega
 have r5 : ¬ R < 4503599627370496 := by omega
 have r6 : R < 9218868437227405312 := by omega
 rw [← hR]
 unfold Format.read
 simp only [dbl_binade, dbl_inf, dbl_sign, dbl_least, r1, r2, r3, r4, if_neg r5, if_pos r6]
 have a1 : 4503599627370496 + (N - 4503599627370496) = N := by omega
 have a2 : (-1074 : Int) + ((L + 1023 - 1 : Nat) : Int) = -((52 - L : Nat) : Int) := by omega
 rw [a1, a2]
 rfl
theorem cut_none (n : Nat) : Toward.even.cut false n 0 = n := by
 unfold Toward.cut
 simp [Nat.mod_one]
theorem fl_rung (n L : Nat) (h0 : n ≠ 0) (hL : n.log2 = L) (hL52 : L ≤ 52) (hN2 : n * 2 ^ (52 - L) < 9007199254740992) : fl n = (L + 1022) * 4503599627370496 + n * 2 ^ (52 - L) := by
 rw [fl_eq]
 unfold Format.nearest
 rw [if_neg h0]
 have hlast : max ((0 : Int) + (n.log2 : Nat) - (double.fractionBits : Nat)) double.leastPlace = (L : Int) - 52 := by
  rw [hL, dbl_least]
  show max ((0 : Int) + (L : Nat) - ((52 : Nat) : Int)) (-1074) = _
  omega
 simp only [hlast]
 have h1 : ((0 : Int) - ((L : Int) - 52)).toNat = 52 - L := by omega
 have h2 : (((L : Int) - 52) - 0).toNat = 0 := by omega
 have h3 : (((L : Int) - 52) - double.leastPlace).toNat = L + 1022 := by
  rw [dbl_least]
  omega
 rw [h1, h2, h3, Nat.shiftLeft_eq, cut_none, dbl_binade, dbl_inf]
 generalize n * 2 ^ (52 - L) = N at hN2
 unfold Format.word
 rw [if_neg (by decide)]
 exact Nat.min_eq_left (by omega)
theorem log_52 (n : Nat) (h : n < 9007199254740992) (h0 : n ≠ 0) : n.log2 ≤ 52 := by
 have := (Nat.log2_lt h0 (k := 53)).2 (by simpa using h)
 omega
theorem read_fl (n : Nat) (h : n < 9007199254740992) : ∃ k : Nat, double.read (fl n) = .number false (n * 2 ^ k) (-(k : Int)) := by
 by_cases h0 : n = 0
 ·subst h0
  rw [fl_zero, read_zero]
  obtain ⟨K, hK⟩ : ∃ K : Nat, K = 1074 := ⟨_, rfl⟩
  exact ⟨K, by rw [Nat.zero_mul, hK]; rfl⟩
 have hlo := Nat.log2_self_le h0
 have hhi := Nat.lt_log2_self (n := n)
 have hL52 := log_52 n h h0
 obtain ⟨L, hL⟩ : ∃ L, n.log2 = L := ⟨_, rfl⟩
 rw [hL] at hlo hhi hL52
 have hN1 : 4503599627370496 ≤ n * 2 ^ (52 - L) := by
  have h1 : 2 ^ L * 2 ^ (52 - L) ≤ n * 2 ^ (52 - L) := Nat.mul_le_mul_right _ hlo
  rw [← Nat.pow_add, show L + (52 - L) = 52 from Nat.add_sub_cancel' hL52] at h1
  exact h1
 have hN2 : n * 2 ^ (52 - L) < 9007199254740992 := by
  have h1 : n * 2 ^ (52 - L) < 2 ^ (L + 1) * 2 ^ (52 - L) := Nat.mul_lt_mul_of_pos_right hhi (Nat.two_pow_pos _)
  rw [← Nat.pow_add, show L + 1 + (52 - L) = 53 by omega] at h1
  exact h1
 exact ⟨52 - L, by rw [fl_rung n L h0 hL hL52 hN2]; exact read_rung L _ hL52 hN1 hN2⟩
theorem order_fl (a b : Nat) (ha : a < 9007199254740992) (hb : b < 9007199254740992) : double.order (fl a) (fl b) = some (compare (a : Int) (b : Int)) := by
 obtain ⟨i, hi⟩ := read_fl a ha
 obtain ⟨j, hj⟩ := read_fl b hb
 unfold Format.order
 rw [hi, hj]
 unfold Datum.order
 have h1 : ((-(i : Int)) - min (-(i : Int)) (-(j : Int))).toNat = max i j - i := by omega
 have h2 : ((-(j : Int)) - min (-(i : Int)) (-(j : Int))).toNat = max i j - j := by omega
 simp only [h1, h2, signed, Bool.false_eq_true, if_false, Nat.shiftLeft_eq, Nat.mul_assoc, ← Nat.pow_add]
 rw [show i + (max i j - i) = max i j by omega, show j + (max i j - j) = max i j by omega]
 have hp := Nat.two_pow_pos (max i j)
 generalize 2 ^ max i j = m at hp
 congr 1
 have hlt : ((a * m : Nat) : Int) < ((b * m : Nat) : Int) ↔ (a : Int) < (b : Int) := by
  rw [Int.ofNat_lt, Int.ofNat_lt]
  exact Nat.mul_lt_mul_right hp
 have heq : ((a * m : Nat) : Int) = ((b * m : Nat) : Int) ↔ (a : Int) = (b : Int) := by
  rw [Int.ofNat_inj, Int.ofNat_inj]
  exact Nat.mul_left_inj (by omega)
 show compareOfLessAndEq _ _ = compareOfLessAndEq _ _
 unfold compareOfLessAndEq
 simp only [hlt, heq]
theorem cut_zero (n k : Nat) : Toward.zero.cut false (n * 2 ^ k) k = n := by
 unfold Toward.cut
 simp only [Nat.shiftLeft_eq, Nat.one_mul, Bool.toNat_false, Nat.add_zero]
 by_cases hm : k ≤ (n * 2 ^ k).log2 + 2
 ·rw [Nat.min_eq_left hm]
  exact Nat.mul_div_cancel _ (Nat.two_pow_pos k)
 ·rw [Nat.min_eq_right (by omega)]
  have h1 := Nat.lt_log2_self (n := n * 2 ^ k)
  have h2 : 2 ^ ((n * 2 ^ k).log2 + 1) ≤ 2 ^ k := Nat.pow_le_pow_right (by decide) (by omega)
  have h3 : n = 0 := by
   rcases Nat.eq_zero_or_pos n with h | h
   ·exact h
   ·have := Nat.le_mul_of_pos_left (2 ^ k) h
    omega
  subst h3
  simp
theorem fl_int (n : Nat) (h : n < 9007199254740992) : floatToIntVal .f64 (fl n) .i64 = some (n : Int) := by
 obtain ⟨k, hk⟩ := read_fl n h
 unfold floatToIntVal
 show (match (double.read (fl n)).toInt .zero with
  | some n => if IntKind.i64.min ≤ n ∧ n ≤ IntKind.i64.max then some n else none
  | none => none) = _
 rw [hk]
 have hc := cut_zero n k
 unfold Datum.toInt Datum.integral
 have h1 : (-(k : Int)).toNat = 0 := by omega
 have h2 : (-(-(k : Int))).toNat = k := by omega
 simp only [h1, h2, Nat.shiftLeft_zero, hc, signed, Bool.false_eq_true, if_false]
 have h3 : IntKind.i64.min ≤ (n : Int) ∧ (n : Int) ≤ IntKind.i64.max := by
  show (-9223372036854775808 : Int) ≤ _ ∧ _ ≤ (9223372036854775807 : Int)
  omega
 rw [if_pos h3]
end
section
open Go.RowKit
def spV (s n : Nat) : Value := .complex .f64 (fl s) (fl n)
theorem and_z (z : Int) : bits .and .i64 z 4294967295 = ((z % 4294967296).toNat : Int) := by
 show IntKind.i64.wrap ((BitVec.ofInt 64 z &&& BitVec.ofInt 64 4294967295).toNat : Int) = _
 have h1 : (BitVec.ofInt 64 4294967295).toNat = 4294967295 := by decide
 have h2 : (BitVec.ofInt 64 z).toNat = (z % 18446744073709551616).toNat := by rw [BitVec.toNat_ofInt]; rfl
 rw [BitVec.toNat_and, h1, h2, show (4294967295 : Nat) = 2 ^ 32 - 1 from rfl, Nat.and_two_pow_sub_one_eq_mod]
 have h3 : ((z % 18446744073709551616).toNat % 2 ^ 32 : Nat) = (z % 4294967296).toNat := by omega
 rw [h3]
 exact IntWalk.i64_in _ (by omega)
theorem and_sp (z : Int) (d : Nat) (hd : (z % 4294967296).toNat = d) (x y : Operand) (w : World) : (do eqGuard .and 3 x y (.int .i64 z) (.int .i64 4294967295); binOp .and 3 (.int .i64 z) (.int .i64 4294967295) : Sem Value).run Tryz.prog w = .ok (.int .i64 (d : Int)) w := by
 have h := and_z z
 rw [hd] at h
 simp [go_sem]
 exact h
theorem sub_ii (u v : Int) (h1 : -9223372036854775808 ≤ u - v) (h2 : u - v ≤ 9223372036854775807) (x y : Operand) (w : World) : (do eqGuard .sub 3 x y (.int .i64 u) (.int .i64 v); binOp .sub 3 (.int .i64 u) (.int .i64 v) : Sem Value).run Tryz.prog w = .ok (.int .i64 (u - v)) w := by
 simp [go_sem]
 exact IntWalk.i64_in _ (by omega)
theorem spanOf (s n : Nat) (w : World) : Calls Tryz.prog 118 #[.int .i64 (s : Int), .int .i64 (n : Int)] w fun e w' => e = .returned (spV s n) ∧ w = w' := by
 go_enter Tryz.func118, Tryz.ntmps118
 go_wp2
 go_ret
 exact ⟨rfl, rfl⟩
theorem neq_e (u v : Int) (b : Bool) (h : (u != v) = b) (x y : Operand) (w : World) : (do eqGuard .neq 27 x y (.int .i64 u) (.int .i64 v); binOp .neq 27 (.int .i64 u) (.int .i64 v) : Sem Value).run Tryz.prog w = .ok (.bool b) w := by
 subst h
 simp [go_sem]
theorem order_i (u v : Nat) (hu : u < 9007199254740992) (hv : v < 9007199254740992) : FloatKind.f64.format.order (fl u) (fl v) = some (compare (u : Int) (v : Int)) := order_fl u v hu hv
theorem cmp_lt {u v : Nat} (h : u < v) : compare (u : Int) (v : Int) = .lt := by
 show compareOfLessAndEq _ _ = _
 unfold compareOfLessAndEq
 rw [if_pos (by omega)]
theorem cmp_eq (u : Nat) : compare (u : Int) (u : Int) = .eq := by
 show compareOfLessAndEq _ _ = _
 unfold compareOfLessAndEq
 rw [if_neg (by omega), if_pos rfl]
theorem cmp_gt {u v : Nat} (h : v < u) : compare (u : Int) (v : Int) = .gt := by
 show compareOfLessAndEq _ _ = _
 unfold compareOfLessAndEq
 rw [if_neg (by omega), if_neg (by omega)]
theorem geq_f (u : Nat) (hu : u < 9007199254740992) (x y : Operand) (w : World) : (do eqGuard .geq 193 x y (.float .f64 (fl u)) (.float .f64 0); binOp .geq 193 (.float .f64 (fl u)) (.float .f64 0) : Sem Value).run Tryz.prog w = .ok (.bool true) w := by
 have h := order_i u 0 hu (by decide)
 rw [fl_zero] at h
 have hb : (FloatKind.f64.format.order (fl u) 0 == some .gt || FloatKind.f64.format.order (fl u) 0 == some .eq) = true := by
  rw [h]
  rcases Nat.eq_zero_or_pos u with rfl | hp
  ·rw [cmp_eq]; rfl
  ·rw [cmp_gt hp]; rfl
 simp [go_sem]
 simpa using hb
theorem leq_f (u v : Nat) (b : Bool) (hb : decide (u ≤ v) = b) (hu : u < 9007199254740992) (hv : v < 9007199254740992) (x y : Operand) (w : World) : (do eqGuard .leq 193 x y (.float .f64 (fl u)) (.float .f64 (fl v)); binOp .leq 193 (.float .f64 (fl u)) (.float .f64 (fl v)) : Sem Value).run Tryz.prog w = .ok (.bool b) w := by
 have h := order_i u v hu hv
 have hb : (FloatKind.f64.format.order (fl u) (fl v) == some .lt || FloatKind.f64.format.order (fl u) (fl v) == some .eq) = b := by
  rw [h, ← hb]
  rcases Nat.lt_trichotomy u v with hp | rfl | hp
  ·rw [cmp_lt hp, decide_eq_true (Nat.le_of_lt hp)]; rfl
  ·rw [cmp_eq, decide_eq_true (Nat.le_refl _)]; rfl
  ·rw [cmp_gt hp, decide_eq_false (by omega)]; rfl
 simp [go_sem]
 exact hb
theorem eql_f (u : Nat) (hu : u < 9007199254740992) (x y : Operand) (w : World) : (do eqGuard .eql 193 x y (.float .f64 (fl u)) (.float .f64 (fl u)); binOp .eql 193 (.float .f64 (fl u)) (.float .f64 (fl u)) : Sem Value).run Tryz.prog w = .ok (.bool true) w := by
 have h := order_i u u hu hu
 rw [cmp_eq] at h
 simp [go_sem, h]
theorem conv_f (u : Nat) (w : World) : (convert 3 193 (.int .i64 (u : Int))).run Tryz.prog w = .ok (.float .f64 (fl u)) w :=
 run_convert_int_float (P := Tryz.prog) w 3 193 .i64 .f64 (u : Int) (by kernel_rfl) (by kernel_rfl)
theorem conv_fi (u : Nat) (hu : u < 9007199254740992) (w : World) : (convert 193 3 (.float .f64 (fl u))).run Tryz.prog w = .ok (.int .i64 (u : Int)) w :=
 run_convert_float_int (P := Tryz.prog) w 193 3 .f64 .i64 (fl u) (u : Int) (by kernel_rfl) (by kernel_rfl) (fl_int u hu)
theorem spanWhole (n m : Nat) (hn : n < 9007199254740992) (hm : m < 9007199254740992) (w : World) : Calls Tryz.prog 138 #[.float .f64 (fl n), .int .i64 (m : Int)] w fun e w' => e = .returned (if n ≤ m then .tuple #[.int .i64 (n : Int), .bool true] else .tuple #[.int .i64 0, .bool false]) ∧ w = w' := by
 go_enter Tryz.func138, Tryz.ntmps138
 refine Has.start 22 [(0, .float .f64 (fl n)), (1, .int .i64 (m : Int))] rfl rfl ⟨rfl, rfl, trivial⟩ ?_
 intro a0 H0
 refine H0.rg 2 fun a1 H1 => nt ?_
 obtain ⟨b, hb⟩ : ∃ b, decide (n ≤ m) = b := ⟨_, rfl⟩
 refine H1.rg 1 fun a H => ?_
 refine H.bn 1 (geq_f n hn _ _ _) fun a H => ?_
 refine H.move (H.wt rfl rfl rfl) (.inl rfl) rfl rfl rfl fun a H => ?_
 refine H.move (H.wt rfl rfl rfl) (.inl rfl) rfl rfl rfl fun a H => ?_
 refine H.conv (H.wt rfl rfl rfl) rfl rfl rfl rfl (conv_f m _) fun a H => ?_
 refine H.bin (H.wt rfl rfl rfl) rfl rfl rfl rfl rfl (leq_f n m b hb hn hm _ _ _) fun a H => ?_
 refine H.pick gz rfl rfl rfl rfl rfl fun a H => ?_
 refine H.un gz rfl rfl rfl rfl (run_not b _) fun a H => nt (H.cond (t := !b) rfl ?_)
 cases b with
 | false =>
  have h : ¬ n ≤ m := of_decide_eq_false hb
  rw [if_neg h]
  refine H.rg 2 fun a H => nt (wp_ret ?_)
  repeat (first | (with_reducible refine block_ret ?_) | (with_reducible refine then_ret ?_))
  exact bodyPost_ret (results_pair rfl _ _ _ (H.at_ 4 _ rfl) (H.at_ 5 _ rfl)) H.df ⟨rfl, rfl⟩
 | true =>
  have h : n ≤ m := of_decide_eq_true hb
  rw [if_pos h]
  refine skip_wp (then_normal ?_)
  replace H := H.kp [0]
  refine H.rg 1 fun a H => ?_
  refine H.cv 1 (conv_fi n hn _) fun a H => nt ?_
  refine H.rg 2 fun a H => ?_
  refine H.cv 1 (conv_f n _) fun a H => ?_
  refine H.bn 2 (eql_f n hn _ _ _) fun a H => nt (wp_ret ?_)
  repeat (first | (with_reducible refine block_ret ?_) | (with_reducible refine then_ret ?_))
  exact bodyPost_ret (results_pair rfl _ _ _ (H.at_ 4 _ rfl) (H.at_ 5 _ rfl)) H.df ⟨rfl, rfl⟩
theorem spanParts (s n : Nat) (hs : s ≤ 4294967295) (hn : n ≤ 65536) (w : World) : Calls Tryz.prog 119 #[spV s n] w fun e w' => e = .returned (.tuple #[.int .i64 (s : Int), .int .i64 (n : Int), .int .i64 0]) ∧ w = w' := by
 go_enter Tryz.func119, Tryz.ntmps119
 refine Has.start 27 [(0, spV s n)] rfl rfl ⟨rfl, trivial⟩ ?_
 intro a0 H0
 have k1 := spanWhole s 4294967295 (by omega) (by decide) w
 have k2 := spanWhole n 65536 (by omega) (by decide) w
 rw [if_pos hs] at k1
 rw [if_pos hn] at k2
 refine H0.rg 3 fun a1 H1 => nt ?_
 refine H1.rg 1 fun a H => ?_
 refine H.any (w' := w) gz rfl rfl (.float .f64 (fl s)) (by intro cs b h; cases h) (by kernel_rfl) (by kernel_rfl) fun a H => ?_
 refine H.cq 1 k1 fun a H => ?_
 refine H.ex (r := .int .i64 (s : Int)) 0 fun a H => ?_
 refine H.ex (r := .bool true) 2 fun a H => nt ?_
 refine H.rg 1 fun a H => ?_
 refine H.any (w' := w) gz rfl rfl (.float .f64 (fl n)) (by intro cs b h; cases h) (by kernel_rfl) (by kernel_rfl) fun a H => ?_
 refine H.cq 1 k2 fun a H => ?_
 refine H.ex (r := .int .i64 (n : Int)) 0 fun a H => ?_
 refine H.ex (r := .bool true) 2 fun a H => nt ?_
 replace H := H.kp [2, 3, 5, 6]
 refine H.rg 1 fun a H => ?_
 refine H.un gz rfl rfl rfl rfl (run_not true _) fun a H => ?_
 refine H.ms 1 fun a H => ?_
 refine H.move (H.wt rfl rfl rfl) (.inl rfl) rfl rfl rfl fun a H => ?_
 refine H.un (H.wt rfl rfl rfl) rfl rfl rfl rfl (run_not true _) fun a H => ?_
 refine H.pick gz rfl rfl rfl rfl rfl fun a H => nt (H.condF rfl (skip_wp (then_normal ?_)))
 refine H.rg 5 fun a H => nt (wp_ret ?_)
 repeat (first | (with_reducible refine block_ret ?_) | (with_reducible refine then_ret ?_))
 exact bodyPost_ret (results_three rfl _ _ _ _ (H.at_ 2 _ rfl) (H.at_ 3 _ rfl) (H.at_ 4 _ rfl)) H.df ⟨rfl, rfl⟩
theorem spanOf_yes (s n : Nat) (hs : s ≤ 4294967295) (hn : n ≤ 65536) (w : World) : Calls Tryz.prog 88 #[.int .i64 (s : Int), .int .i64 (n : Int)] w fun e w' => e = .returned (.tuple #[spV s n, .int .i64 0]) ∧ w = w' := by
 have h1 : inR (s : Int) 4294967295 = true := inR_iff.2 ⟨by omega, by omega⟩
 go_enter Tryz.func88, Tryz.ntmps88
 refine Has.start 20 [(0, .int .i64 (s : Int)), (1, .int .i64 (n : Int))] rfl rfl ⟨rfl, rfl, trivial⟩ ?_
 intro a0 H0
 refine H0.rg 2 fun a1 H1 => nt ?_
 refine H1.rg 1 fun a H => ?_
 refine H.cq 0 (h1 ▸ spanIs (s : Int) w) fun a H => ?_
 refine H.un gz rfl rfl rfl rfl (run_not true _) fun a H => ?_
 refine H.ms 1 fun a H => ?_
 refine H.move (H.wt rfl rfl rfl) (.inl rfl) rfl rfl rfl fun a H => ?_
 refine H.bin (H.wt rfl rfl rfl) rfl rfl rfl rfl rfl (lss_i (n : Int) 0 false (decide_eq_false (by omega)) _ _ _) fun a H => ?_
 refine H.pick gz rfl rfl rfl rfl rfl fun a H => ?_
 refine H.ms 1 fun a H => ?_
 refine H.move (H.wt rfl rfl rfl) (.inl rfl) rfl rfl rfl fun a H => ?_
 refine H.bin (H.wt rfl rfl rfl) rfl rfl rfl rfl rfl (gtr_i (n : Int) 65536 false (decide_eq_false (by omega)) _ _ _) fun a H => ?_
 refine H.pick gz rfl rfl rfl rfl rfl fun a H => nt (H.condF rfl (skip_wp (then_normal ?_)))
 refine H.rg 2 fun a H => ?_
 refine H.cq 2 (spanOf s n w) fun a H => nt (wp_ret ?_)
 repeat (first | (with_reducible refine block_ret ?_) | (with_reducible refine then_ret ?_))
 exact bodyPost_ret (results_pair rfl _ _ _ (H.at_ 4 _ rfl) (H.at_ 5 _ rfl)) H.df ⟨rfl, rfl⟩
end
section
open Go.RowKit
def EthAt (w : World) (r : Frm × Int) (v : Value) (w' : World) : Prop :=
 ∃ A c, v = .tuple #[.agg #[iz r.1.d, iz r.1.s, iz r.1.t, .slice A r.1.xs.length c], iz r.2] ∧ w'.ownsRow w.heap.size 5 1 (.slice A r.1.xs.length c) r.1.xs.length (r.1.xs.map bv) ∧ Below w.heap.size w w'
theorem size_frame : (Tryz.prog.info? 85).map (·.size) = some 4 := by kernel_rfl
theorem zero_frame (w : World) : (zeroValue 85).run Tryz.prog w = .ok (.agg ([iz 0, iz 0, iz 0, nilV] : List Value).toArray) w := by kernel_rfl
theorem take_drop7 (xs : List UInt8) (k m : Nat) : (xs.take (k + m)).drop k = (xs.drop k).take m := by
 rw [List.drop_take, Nat.add_sub_cancel_left]
theorem cloneE (y : List UInt8) (n : Nat) (hn : y.length = n) (A : Option Addr) (c : Nat) (w : World) (hx : RB w w.heap.size A y) (hl : n ≤ 140737488351232) :
  Calls Tryz.prog 80 #[.slice A n c] w fun e w' => ∃ v, e = .returned v ∧ (∃ A' c', v = .slice A' n c' ∧ w'.ownsRow w.heap.size 5 1 (.slice A' n c') n (y.map bv) ∧ Below w.heap.size w w') :=
 (clone y n hn A c w hx hl).mono fun _ _ ⟨A', c', h1, h2, h3⟩ => ⟨_, h1, A', c', rfl, h2, h3⟩
theorem shl_8 (u : Nat) (h : u < 36028797018963968) (x y : Operand) (w : World) : (do eqGuard .shl 3 x y (iz u) (.int .u64 8); binOp .shl 3 (iz u) (.int .u64 8) : Sem Value).run Tryz.prog w = .ok (iz ((u : Int) * 256)) w := by
 have : IntKind.i64.wrap ((u : Int) * 256) = (u : Int) * 256 := IntWalk.i64_in _ (by omega)
 simp [go_sem, this]
theorem conv_xi (x : UInt8) (w : World) : (convert 5 3 (bv x)).run Tryz.prog w = .ok (iz x.toNat) w := by
 have hx := x.toNat_lt
 have : IntKind.i64.wrap (x.toNat : Int) = (x.toNat : Int) := IntWalk.i64_in _ (by omega)
 simp [go_sem, this]
theorem or_x (u : Nat) (x : UInt8) (h : u < 36028797018963968) (p q : Operand) (w : World) : (do eqGuard .or 3 p q (iz ((u : Int) * 256)) (iz x.toNat); binOp .or 3 (iz ((u : Int) * 256)) (iz x.toNat) : Sem Value).run Tryz.prog w = .ok (iz ((u * 256 + x.toNat : Nat) : Int)) w := by
 have := or_shl u x h
 simp [go_sem]
 rw [this]
 simp
theorem ethGet (xs : List UInt8) (n : Nat) (hl : xs.length = n) (A : Option Addr) (c : Nat) (w : World) (hx : RB w w.heap.size A xs) (hn : n ≤ 7) :
  Calls Tryz.prog 85 #[.slice A n c] w fun e w' => e = .returned (iz (ofB xs)) ∧ w = w' := by
 subst hl
 go_enter Tryz.func85, Tryz.ntmps85
 refine Has.start 18 [(0, .slice A xs.length c)] rfl rfl ⟨rfl, trivial⟩ ?_
 intro a0 H0
 refine H0.rg 1 fun a H => nt ?_
 refine H.rg 1 fun a H => ?_
 refine H.len gz rfl rfl rfl rfl Tryz.underlying31 fun a H => ?_
 refine H.ms 1 fun a H => nt ?_
 replace H := H.kp [2, 5, 6, 7]
 refine wp_block ?_
 refine wp_loop_up xs.length (fun k a w' => Has a 18 [(2, iz (ofB (xs.take k))), (5, .slice A xs.length c), (6, iz xs.length), (7, iz k)] ∧ w = w') ⟨H, rfl⟩ ?_
 clear H0 H
 rintro k a _ hk ⟨H, rfl⟩
 refine H.rg 0 fun a H => ?_
 by_cases hlt : k < xs.length
 rotate_left
 ·refine H.bb 0 rfl rfl rfl rfl rfl rfl (lss_i _ _ false (by rw [decide_eq_false_iff_not]; omega) _ _ _) rfl fun a H => nt (wp_seq (H.condF rfl ?_))
  refine wp_exit ?_
  repeat (with_reducible refine then_exit ?_)
  refine block_leave (then_normal ?_)
  refine H.rg 2 fun a H => nt (wp_ret ?_)
  repeat (first | (with_reducible refine block_ret ?_) | (with_reducible refine then_ret ?_))
  have : k = xs.length := by omega
  subst this
  refine bodyPost_ret (results_tmp rfl _ _ _) H.df ⟨?_, rfl⟩
  rw [show a.tmps.getD 2 undef = iz (ofB (xs.take xs.length)) from H.at_ 2 _ rfl, List.take_length]
 refine H.bb 0 rfl rfl rfl rfl rfl rfl (lss_i _ _ true (by rw [decide_eq_true_iff]; omega) _ _ _) rfl fun a H => nt (wp_seq (H.condT rfl ?_))
 refine skip_wp (then_normal ?_)
 obtain ⟨b, o, x, rfl, hbB, hxk, hcell⟩ := hx.get hlt
 have hs : ofB (xs.take (k + 1)) = ofB (xs.take k) * 256 + x.toNat := by rw [take_snoc? xs k x hxk, ofB_snoc]
 have ht1 : ofB (xs.take k) < 36028797018963968 := by
  have h1 := ofB_lt (xs.take k)
  have h2 : (256 : Nat) ^ (xs.take k).length ≤ 256 ^ 6 := Nat.pow_le_pow_right (by omega) (by rw [List.length_take]; omega)
  omega
 refine wp_seq_join (fun a w' => Has a 18 [(2, iz ((ofB (xs.take (k + 1)) : Nat) : Int)), (5, .slice (some ⟨b, o, none⟩) xs.length c), (6, iz xs.length), (7, iz k)] ∧ w = w') ?_ ?_
 ·refine wp_block ?_
  refine H.rg 0 fun a H => ?_
  refine H.index gz rfl rfl rfl rfl rfl (index_1 31 Tryz.underlying31 (fun _ => by kernel_rfl) b o xs.length c k hlt _) fun a H => ?_
  refine H.ld 1 (load1_u _ _ _ _ hcell) fun a H => nt ?_
  refine H.rg 1 fun a H => ?_
  refine H.bn 1 (shl_8 _ ht1 _ _ _) fun a H => ?_
  refine H.cv 0 (conv_xi x _) fun a H => ?_
  refine H.bn 1 (or_x _ x ht1 _ _ _) fun a H => wpList_nil (block_normal (then_normal ?_))
  rw [hs]
  exact ⟨H.keep ⟨rfl, rfl, rfl, rfl, trivial⟩, rfl⟩
 ·rintro a _ ⟨H, rfl⟩
  refine H.rg 0 fun a H => ?_
  refine H.bb 1 rfl rfl rfl rfl rfl rfl (succ_i k (by omega) _ _ _) rfl fun a H => nt ?_
  exact ⟨hlt, H.keep ⟨rfl, rfl, rfl, rfl, trivial⟩, rfl⟩
theorem ethParse (xs : List UInt8) (n : Nat) (hn : xs.length = n) (A : Option Addr) (c : Nat) (hnc : n ≤ c) (w : World) (hx : RB w w.heap.size A xs) (hl : n ≤ 140737488351232) :
  Calls Tryz.prog 50 #[.slice A n c] w fun e w' => ∃ v, e = .returned v ∧ EthAt w (frOut xs) v w' := by
 go_enter Tryz.func50, Tryz.ntmps50
 refine Has.start 27 [(0, .slice A n c)] rfl rfl ⟨rfl, trivial⟩ ?_
 intro a0 H0
 have O0 := Own.start w
 refine rl ?_
 refine H0.al O0 1 zero_frame fun a1 w1 O1 H1 => nt ?_
 generalize hg : w.heap.size = g at O1 H1
 refine wp_seq (wp_block ?_)
 refine H1.rg 1 fun a2 H2 => ?_
 refine H2.len gz rfl rfl rfl rfl Tryz.underlying31 fun a3 H3 => ?_
 by_cases h14 : n < 14
 ·refine H3.bb 1 rfl rfl rfl rfl rfl rfl (lss_i _ _ true (by rw [decide_eq_true_iff]; omega) _ _ _) rfl fun a4 H4 => nt (H4.condT rfl ?_)
  refine rl ?_
  refine H4.any (w' := w1) gz rfl rfl (.agg ([iz 0, iz 0, iz 0, nilV] : List Value).toArray) (by intro cs b h; cases h) (by kernel_rfl) (by kernel_rfl) fun a5 H5 => ?_
  refine H5.st O1 0 1 (L := [iz 0, iz 0, iz 0, nilV]) (fun a6 w2 O2 H6 => nt (wp_ret ?_)) size_frame
  repeat (first | (with_reducible refine block_ret ?_) | (with_reducible refine then_ret ?_))
  refine bodyPost_ret (results_two Tryz.results50 _ _ _ (H6.at_ 2 _ rfl) (H6.at_ 3 _ rfl) (O2.get 0 rfl) Tryz.underlying85 rfl _ size_frame rfl) H6.df ⟨_, rfl, ?_⟩
  unfold frOut
  rw [if_pos (by omega)]
  exact ⟨none, 0, rfl, World.ownsRow_nil _ _ _ _, hg ▸ O2.bel⟩
 refine H3.bb 1 rfl rfl rfl rfl rfl rfl (lss_i _ _ false (by rw [decide_eq_false_iff_not]; omega) _ _ _) rfl fun a4 H4 => nt (H4.condF rfl ?_)
 refine H4.rg 1 fun a5 H5 => ?_
 refine H5.len gz rfl rfl rfl rfl Tryz.underlying31 fun a6 H6 => ?_
 by_cases h15 : 1514 < n
 ·refine H6.bb 1 rfl rfl rfl rfl rfl rfl (gtr_i _ _ true (by rw [decide_eq_true_iff]; omega) _ _ _) rfl fun a7 H7 => nt (H7.condT rfl ?_)
  refine rl ?_
  refine H7.any (w' := w1) gz rfl rfl (.agg ([iz 0, iz 0, iz 0, nilV] : List Value).toArray) (by intro cs b h; cases h) (by kernel_rfl) (by kernel_rfl) fun a8 H8 => ?_
  refine H8.st O1 0 1 (L := [iz 0, iz 0, iz 0, nilV]) (fun a9 w2 O2 H9 => nt (wp_ret ?_)) size_frame
  repeat (first | (with_reducible refine block_ret ?_) | (with_reducible refine then_ret ?_))
  refine bodyPost_ret (results_two Tryz.results50 _ _ _ (H9.at_ 2 _ rfl) (H9.at_ 3 _ rfl) (O2.get 0 rfl) Tryz.underlying85 rfl _ size_frame rfl) H9.df ⟨_, rfl, ?_⟩
  unfold frOut
  rw [if_neg (by omega), if_pos (by omega)]
  exact ⟨none, 0, rfl, World.ownsRow_nil _ _ _ _, hg ▸ O2.bel⟩
 refine H6.bb 1 rfl rfl rfl rfl rfl rfl (gtr_i _ _ false (by rw [decide_eq_false_iff_not]; omega) _ _ _) rfl fun a7 H7 => nt (H7.condF rfl (skip_wp (block_normal (then_normal ?_))))
 replace H7 := H7.kp [0, 2]
 have l1 : (xs.take 6).length = 6 := by rw [List.length_take]; omega
 have l2 : ((xs.drop 6).take 6).length = 6 := by rw [List.length_take, List.length_drop]; omega
 have l3 : ((xs.drop 12).take 2).length = 2 := by rw [List.length_take, List.length_drop]; omega
 have l4 : (xs.drop 14).length = n - 14 := by rw [List.length_drop]; omega
 have bl : ∀ {w' : World}, Own w g [(g, [iz 0, iz 0, iz 0, nilV])] w' → Below w.heap.size w w' := fun h => hg ▸ h.bel
 have r2 : ∀ {w' : World}, Below w.heap.size w w' → RB w' w'.heap.size (if c = 6 then A else A.map (·.add 6)) ((xs.drop 6).take 6) := fun h => by
  have := ((hx.next h).take 12).cut (k := 6) (cap := c) (by rw [List.length_take]; omega) (by rw [List.length_take]; omega)
  rw [show (12 : Nat) = 6 + 6 from rfl, take_drop7] at this
  exact this
 have r3 : ∀ {w' : World}, Below w.heap.size w w' → RB w' w'.heap.size (if c = 12 then A else A.map (·.add 12)) ((xs.drop 12).take 2) := fun h => by
  have := ((hx.next h).take 14).cut (k := 12) (cap := c) (by rw [List.length_take]; omega) (by rw [List.length_take]; omega)
  rw [show (14 : Nat) = 12 + 2 from rfl, take_drop7] at this
  exact this
 have r4 : ∀ {w' : World}, Below w.heap.size w w' → RB w' w'.heap.size (if c = 14 then A else A.map (·.add 14)) (xs.drop 14) := fun h => (hx.next h).cut (k := 14) (cap := c) (by omega) (by omega)
 refine H7.sg (fun w' => Own w g [(g, [iz 0, iz 0, iz 0, nilV])] w') O1.drew [0, 2]
  [ec 0 14 (.slice A n c), ec 1 15 (.slice A 6 c), ec 2 16 (iz (num2 xs 0 6)), ec 3 17 (.slice A n c), ec 4 18 (.slice (if c = 6 then A else A.map (·.add 6)) 6 (c - 6)), ec 5 19 (iz (num2 xs 6 6)), ec 6 20 (.slice A n c), ec 7 21 (.slice (if c = 12 then A else A.map (·.add 12)) 2 (c - 12)), ec 8 22 (iz (num2 xs 12 2)),
   ec 9 23 (.slice A n c), ec 10 24 (.slice (if c = 14 then A else A.map (·.add 14)) (n - 14) (c - 14)), ec 14 3 (iz 0)] rfl ?_
 refine St.call 11 ⟨jm, jh fun _ => slice_h A n c 6 (by omega) hnc _, jq fun w' h => ethGet (xs.take 6) 6 l1 A c w' ((hx.next (bl h)).take 6) (by decide), jm, js2 fun _ => slice_lh A n c 6 12 (by decide) (by omega) hnc _, jq fun w' h => ethGet _ 6 l2 _ _ w' (r2 (bl h)) (by decide), jm, js2 fun _ => slice_lh A n c 12 14 (by decide) (by omega) hnc _, jq fun w' h => ethGet _ 2 l3 _ _ w' (r3 (bl h)) (by decide), jm, js1 fun _ => slice_lo A n c 14 (by omega) hnc _, jm, trivial⟩
  (fun wy h => cloneE (xs.drop 14) (n - 14) l4 _ (c - 14) wy (r4 (bl h)) (by omega)) ?_
 rintro wy _ wz hh ⟨A1, c1, rfl, hO, hb⟩
 have hgy : g < wy.heap.size := hh.lt 0 rfl
 have Oz := hh.call hb
 clear hb
 generalize wy.heap.size = bb at hO hgy
 refine nx (fun w' => Own w g [(g, [iz 0, iz 0, iz 0, nilV])] w' ∧ w'.ownsRow bb 5 1 (.slice A1 (n - 14) c1) (n - 14) ((xs.drop 14).map bv)) [ec 12 26 (.agg ([iz (num2 xs 0 6), iz (num2 xs 6 6), iz (num2 xs 12 2), .slice A1 (n - 14) c1] : List Value).toArray)] [] ⟨Oz, hO⟩ ?_
 refine St.sto 13 ⟨ja (fun _ => by kernel_rfl), jm, trivial⟩ ?_
 rintro a8 wu H8 _ ⟨Ou, hOu⟩
 obtain ⟨w', hr, hg2, hs2, hC2⟩ := (Ou.get 0 rfl).sto (L := [iz (num2 xs 0 6), iz (num2 xs 6 6), iz (num2 xs 12 2), .slice A1 (n - 14) c1]) size_frame rfl rfl rfl
 refine ⟨w', run_store rfl (H8.ev rfl) (H8.ev rfl) hr, nx0 (fun w' => Own w g [(g, [iz (num2 xs 0 6), iz (num2 xs 6 6), iz (num2 xs 12 2), .slice A1 (n - 14) c1])] w' ∧ w'.ownsRow bb 5 1 (.slice A1 (n - 14) c1) (n - 14) ((xs.drop 14).map bv)) [] [] ⟨Ou.store 0 rfl hg2 hs2 hC2, hOu.kept hg2 (.inr (own_ne hOu (.inl hgy)).symm)⟩ ?_⟩
 refine St.fin ⟨jm, trivial⟩ ?_ (hF := .inl rfl)
 rintro a9 w3 H9 _ ⟨O3, hO3⟩
 refine then_normal (wp_ret ?_)
 repeat (first | (with_reducible refine block_ret ?_) | (with_reducible refine then_ret ?_))
 refine bodyPost_ret (results_two Tryz.results50 _ _ _ (H9.at_ 2 _ rfl) (H9.at_ 3 _ rfl) (O3.get 0 rfl) Tryz.underlying85 rfl _ size_frame rfl) H9.df ⟨_, rfl, ?_⟩
 unfold frOut
 rw [if_neg (by omega), if_neg (by omega)]
 refine ⟨A1, c1, ?_, ?_, hg ▸ O3.bel⟩
 ·simp only [l4]
 ·simp only [l4]
  exact own_base hO3 (by omega)
end
section
open Go.Shelf
def Sh.lays119_ren : Go.Shelf.Ren := ⟨fun | 119 => 182 | n => n, fun | 21 => 21 | 4 => 4 | n => n, fun | n => n⟩
theorem Sh.lays119 : Go.Proofs.Lays.n119 Tryz.prog Sh.lays119_ren := {
 mixed := by kernel_rfl
 f119 := Tryz.func182.trans (congrArg some (by kernel_rfl))
 t4 := Tryz.underlying4
 a4 := Tryz.isAgg4
 z4 := Tryz.sizeOf4
 v4 := Tryz.zeroValue4
 t21 := Tryz.underlying21
 a21 := Tryz.isAgg21
 z21 := Tryz.sizeOf21
 v21 := Tryz.zeroValue21 }
theorem Sh.utf8_ValidRune (r : Int) (w : World) :
  Calls Tryz.prog 182 #[.int .i32 r] w fun e w' => e = .returned (.bool (Lib.validRune r)) ∧ w' = w := Any.utf8_ValidRune Sh.lays119 r w
def Sh.lays137_ren : Go.Shelf.Ren := ⟨fun | 137 => 181 | 217 => 177 | 266 => 183 | n => n, fun | 9 => 9 | 5 => 5 | 3 => 3 | n => n, fun | n => n⟩
theorem Sh.lays137 : Go.Proofs.Lays.n137 Tryz.prog Sh.lays137_ren := {
 mixed := by kernel_rfl
 f137 := Tryz.func181.trans (congrArg some (by kernel_rfl))
 f217 := Tryz.func177.trans (congrArg some (by kernel_rfl))
 f266 := Tryz.func183.trans (congrArg some (by kernel_rfl))
 t3 := Tryz.underlying3
 a3 := Tryz.isAgg3
 z3 := Tryz.sizeOf3
 v3 := Tryz.zeroValue3
 t5 := Tryz.underlying5
 a5 := Tryz.isAgg5
 z5 := Tryz.sizeOf5
 v5 := Tryz.zeroValue5
 t9 := Tryz.underlying9
 a9 := Tryz.isAgg9
 z9 := Tryz.sizeOf9
 v9 := Tryz.zeroValue9 }
open Go.RowKit in
theorem Sh.strings_IndexByte (s : ByteArray) (c : Int) (w : World) :
  Calls Tryz.prog 181 #[.string s, .int .u8 c] w fun e w' => e = .returned (.int .i64 (Lib.indexByte s.data.toList c.toNat.toUInt8)) ∧ w' = w := Any.strings_IndexByte Sh.lays137 s c w
open Go.RowKit Go.Lib in
open Go.RowKit Go.Lib in
open Go.RowKit Go.Lib in
open Go.RowKit Go.Lib in
def Sh.lays219_ren : Go.Shelf.Ren := ⟨fun | 219 => 172 | 217 => 177 | 225 => 178 | 224 => 179 | 267 => 180 | 266 => 183 | 314 => 184 | n => n, fun | 9 => 9 | 3 => 3 | 4 => 4 | 5 => 5 | 46 => 125 | 146 => 223 | 51 => 33 | n => n, fun | 1 => 2 | n => n⟩
open Go.RowKit Go.Lib in
open Go.RowKit Go.Lib in
open Go.RowKit Go.Lib in
open Go.RowKit Go.Lib in
def Sh.lays144_ren : Go.Shelf.Ren := ⟨fun | 144 => 168 | 143 => 170 | 219 => 172 | 217 => 177 | 225 => 178 | 224 => 179 | 267 => 180 | 266 => 183 | 314 => 184 | n => n, fun | 9 => 9 | 4 => 4 | 3 => 3 | 5 => 5 | 46 => 125 | 146 => 223 | 51 => 33 | n => n, fun | 1 => 2 | n => n⟩
theorem Sh.lays144 : Go.Proofs.Lays.n144 Tryz.prog Sh.lays144_ren := {
 mixed := by kernel_rfl
 f143 := Tryz.func170.trans (congrArg some (by kernel_rfl))
 f144 := Tryz.func168.trans (congrArg some (by kernel_rfl))
 f217 := Tryz.func177.trans (congrArg some (by kernel_rfl))
 f219 := Tryz.func172.trans (congrArg some (by kernel_rfl))
 f224 := Tryz.func179.trans (congrArg some (by kernel_rfl))
 f225 := Tryz.func178.trans (congrArg some (by kernel_rfl))
 f266 := Tryz.func183.trans (congrArg some (by kernel_rfl))
 f267 := Tryz.func180.trans (congrArg some (by kernel_rfl))
 f314 := Tryz.func184.trans (congrArg some (by kernel_rfl))
 t3 := Tryz.underlying3
 a3 := Tryz.isAgg3
 z3 := Tryz.sizeOf3
 v3 := Tryz.zeroValue3
 t4 := Tryz.underlying4
 a4 := Tryz.isAgg4
 z4 := Tryz.sizeOf4
 v4 := Tryz.zeroValue4
 t5 := Tryz.underlying5
 a5 := Tryz.isAgg5
 z5 := Tryz.sizeOf5
 v5 := Tryz.zeroValue5
 t9 := Tryz.underlying9
 a9 := Tryz.isAgg9
 z9 := Tryz.sizeOf9
 v9 := Tryz.zeroValue9
 t46 := Tryz.underlying125
 a46 := Tryz.isAgg125
 z46 := Tryz.sizeOf125
 v46 := Tryz.zeroValue125
 t51 := Tryz.underlying33
 a51 := Tryz.isAgg33
 z51 := Tryz.sizeOf33
 v51 := Tryz.zeroValue33
 t146 := Tryz.underlying223
 a146 := Tryz.isAgg223
 z146 := Tryz.sizeOf223
 v146 := Tryz.zeroValue223
 g1 := by kernel_rfl }
open Go.RowKit Go.Lib in
theorem Sh.strings_Contains_one (s : ByteArray) (c : UInt8) (w : World) :
  Calls Tryz.prog 168 #[.string s, .string ⟨#[c]⟩] w fun e w' => e = .returned (.bool (decide (0 ≤ Lib.indexByte s.data.toList c))) ∧ w' = w := Any.strings_Contains_one Sh.lays144 s c w
open Go.RowKit Go.Lib in
open Go.RowKit Go.Lib in
open Go.RowKit Go.Lib in
open Go.RowKit Go.Lib in
def Sh.lays152_ren : Go.Shelf.Ren := ⟨fun | 152 => 173 | 137 => 181 | 119 => 182 | 224 => 179 | 225 => 178 | 217 => 177 | 266 => 183 | n => n, fun | 9 => 9 | 21 => 21 | 3 => 3 | 4 => 4 | 5 => 5 | 0 => 0 | 46 => 125 | n => n, fun | n => n⟩
theorem Sh.lays152 : Go.Proofs.Lays.n152 Tryz.prog Sh.lays152_ren := {
 mixed := by kernel_rfl
 f119 := Tryz.func182.trans (congrArg some (by kernel_rfl))
 f137 := Tryz.func181.trans (congrArg some (by kernel_rfl))
 f152 := Tryz.func173.trans (congrArg some (by kernel_rfl))
 f217 := Tryz.func177.trans (congrArg some (by kernel_rfl))
 f224 := Tryz.func179.trans (congrArg some (by kernel_rfl))
 f225 := Tryz.func178.trans (congrArg some (by kernel_rfl))
 f266 := Tryz.func183.trans (congrArg some (by kernel_rfl))
 t0 := Tryz.underlying0
 a0 := Tryz.isAgg0
 z0 := Tryz.sizeOf0
 v0 := Tryz.zeroValue0
 t3 := Tryz.underlying3
 a3 := Tryz.isAgg3
 z3 := Tryz.sizeOf3
 v3 := Tryz.zeroValue3
 t4 := Tryz.underlying4
 a4 := Tryz.isAgg4
 z4 := Tryz.sizeOf4
 v4 := Tryz.zeroValue4
 t5 := Tryz.underlying5
 a5 := Tryz.isAgg5
 z5 := Tryz.sizeOf5
 v5 := Tryz.zeroValue5
 t9 := Tryz.underlying9
 a9 := Tryz.isAgg9
 z9 := Tryz.sizeOf9
 v9 := Tryz.zeroValue9
 t21 := Tryz.underlying21
 a21 := Tryz.isAgg21
 z21 := Tryz.sizeOf21
 v21 := Tryz.zeroValue21
 t46 := Tryz.underlying125
 a46 := Tryz.isAgg125
 z46 := Tryz.sizeOf125
 v46 := Tryz.zeroValue125 }
open Go.RowKit Go.Lib in
theorem Sh.strings_IndexRune_ascii (s : ByteArray) (r : Int) (w : World) (h0 : 0 ≤ r) (h1 : r < 128) :
  Calls Tryz.prog 173 #[.string s, .int .i32 r] w fun e w' => e = .returned (.int .i64 (Lib.indexByte s.data.toList r.toNat.toUInt8)) ∧ w' = w := Any.strings_IndexRune_ascii Sh.lays152 s r w h0 h1
def Sh.lays226_ren : Go.Shelf.Ren := ⟨fun | 226 => 174 | n => n, fun | 3 => 3 | 4 => 4 | n => n, fun | n => n⟩
theorem Sh.lays226 : Go.Proofs.Lays.n226 Tryz.prog Sh.lays226_ren := {
 mixed := by kernel_rfl
 f226 := Tryz.func174.trans (congrArg some (by kernel_rfl))
 t3 := Tryz.underlying3
 a3 := Tryz.isAgg3
 z3 := Tryz.sizeOf3
 v3 := Tryz.zeroValue3
 t4 := Tryz.underlying4
 a4 := Tryz.isAgg4
 z4 := Tryz.sizeOf4
 v4 := Tryz.zeroValue4 }
open Go.RowKit Go.Lib in
theorem Sh.strings_shouldUseASCIISet (n : Int) (w : World) :
  Calls Tryz.prog 174 #[.int .i64 n] w fun e w' => e = .returned (.bool (decide (8 < n))) ∧ w' = w := Any.strings_shouldUseASCIISet Sh.lays226 n w
def Sh.lays153_ren : Go.Shelf.Ren := ⟨fun | 153 => 171 | 152 => 173 | 226 => 174 | 227 => 175 | 228 => 176 | 137 => 181 | 119 => 182 | 224 => 179 | 225 => 178 | 217 => 177 | 266 => 183 | n => n, fun | 9 => 9 | 3 => 3 | 4 => 4 | 5 => 5 | 21 => 21 | 117 => 216 | 116 => 215 | 0 => 0 | 46 => 125 | 124 => 222 | n => n, fun | n => n⟩
theorem Sh.lays153 : Go.Proofs.Lays.n153 Tryz.prog Sh.lays153_ren := {
 mixed := by kernel_rfl
 f119 := Tryz.func182.trans (congrArg some (by kernel_rfl))
 f137 := Tryz.func181.trans (congrArg some (by kernel_rfl))
 f152 := Tryz.func173.trans (congrArg some (by kernel_rfl))
 f153 := Tryz.func171.trans (congrArg some (by kernel_rfl))
 f217 := Tryz.func177.trans (congrArg some (by kernel_rfl))
 f224 := Tryz.func179.trans (congrArg some (by kernel_rfl))
 f225 := Tryz.func178.trans (congrArg some (by kernel_rfl))
 f226 := Tryz.func174.trans (congrArg some (by kernel_rfl))
 f227 := Tryz.func175.trans (congrArg some (by kernel_rfl))
 f228 := Tryz.func176.trans (congrArg some (by kernel_rfl))
 f266 := Tryz.func183.trans (congrArg some (by kernel_rfl))
 t0 := Tryz.underlying0
 a0 := Tryz.isAgg0
 z0 := Tryz.sizeOf0
 v0 := Tryz.zeroValue0
 t3 := Tryz.underlying3
 a3 := Tryz.isAgg3
 z3 := Tryz.sizeOf3
 v3 := Tryz.zeroValue3
 t4 := Tryz.underlying4
 a4 := Tryz.isAgg4
 z4 := Tryz.sizeOf4
 v4 := Tryz.zeroValue4
 t5 := Tryz.underlying5
 a5 := Tryz.isAgg5
 z5 := Tryz.sizeOf5
 v5 := Tryz.zeroValue5
 t9 := Tryz.underlying9
 a9 := Tryz.isAgg9
 z9 := Tryz.sizeOf9
 v9 := Tryz.zeroValue9
 t21 := Tryz.underlying21
 a21 := Tryz.isAgg21
 z21 := Tryz.sizeOf21
 v21 := Tryz.zeroValue21
 t46 := Tryz.underlying125
 a46 := Tryz.isAgg125
 z46 := Tryz.sizeOf125
 v46 := Tryz.zeroValue125
 t116 := Tryz.underlying215
 a116 := Tryz.isAgg215
 z116 := Tryz.sizeOf215
 t117 := Tryz.underlying216
 a117 := Tryz.isAgg216
 z117 := Tryz.sizeOf216
 v117 := Tryz.zeroValue216
 t124 := Tryz.underlying222
 a124 := Tryz.isAgg222
 z124 := Tryz.sizeOf222
 v124 := Tryz.zeroValue222 }
open Go.RowKit Go.Lib in
open Go.RowKit Go.Lib in
open Go.RowKit Go.Lib in
open Go.RowKit Go.Lib in
open Go.RowKit Go.Lib in
open Go.RowKit Go.Lib in
theorem Sh.strings_IndexAny_long (hv116 : ∀ w, (zeroValue 215).run Tryz.prog w = .ok (.agg (Array.replicate 256 (.bool false))) w) (s chars : ByteArray) (w : World) (h2 : 2 ≤ chars.size) (h8 : 8 < s.size) (hs : s.size < 4294967281) (hcs : chars.size < 4294967281) (hascii : ∀ (j : Nat) b, chars.data.toList[j]? = some b → b.toNat < 128) :
  Calls Tryz.prog 171 #[.string s, .string chars] w fun e w' => e = .returned (.int .i64 (Lib.indexAny s.data.toList chars.data.toList)) ∧ w' = ((w.alloc (.cells (Lib.setCells chars.data.toList) 215)).alloc (.cells (Lib.setCells chars.data.toList) 215)) := Any.strings_IndexAny_long Sh.lays153 hv116 (by kernel_rfl) s chars w h2 h8 hs hcs hascii
open Go.RowKit Go.Lib in
open Go.RowKit Go.Lib in
open Go.RowKit Go.Lib in
open Go.RowKit Go.Lib in
def Sh.lays196_ren : Go.Shelf.Ren := ⟨fun | 196 => 105 | 259 => 130 | n => n, fun | 9 => 9 | 4 => 4 | 3 => 3 | 5 => 5 | 12 => 12 | 119 => 186 | 0 => 0 | 46 => 125 | 139 => 189 | 138 => 188 | 53 => 206 | n => n, fun | 3 => 0 | 4 => 1 | n => n⟩
theorem Sh.lays196 : Go.Proofs.Lays.n196 Tryz.prog Sh.lays196_ren := {
 mixed := by kernel_rfl
 f196 := Tryz.func105.trans (congrArg some (by kernel_rfl))
 f259 := Tryz.func130.trans (congrArg some (by kernel_rfl))
 t0 := Tryz.underlying0
 a0 := Tryz.isAgg0
 z0 := Tryz.sizeOf0
 v0 := Tryz.zeroValue0
 t3 := Tryz.underlying3
 a3 := Tryz.isAgg3
 z3 := Tryz.sizeOf3
 v3 := Tryz.zeroValue3
 t4 := Tryz.underlying4
 a4 := Tryz.isAgg4
 z4 := Tryz.sizeOf4
 v4 := Tryz.zeroValue4
 t5 := Tryz.underlying5
 a5 := Tryz.isAgg5
 z5 := Tryz.sizeOf5
 v5 := Tryz.zeroValue5
 t9 := Tryz.underlying9
 a9 := Tryz.isAgg9
 z9 := Tryz.sizeOf9
 v9 := Tryz.zeroValue9
 t12 := Tryz.underlying12
 a12 := Tryz.isAgg12
 z12 := Tryz.sizeOf12
 v12 := Tryz.zeroValue12
 t46 := Tryz.underlying125
 a46 := Tryz.isAgg125
 z46 := Tryz.sizeOf125
 v46 := Tryz.zeroValue125
 t53 := Tryz.underlying206
 a53 := Tryz.isAgg206
 z53 := Tryz.sizeOf206
 v53 := Tryz.zeroValue206
 t119 := Tryz.underlying186
 a119 := Tryz.isAgg186
 z119 := Tryz.sizeOf186
 t138 := Tryz.underlying188
 a138 := Tryz.isAgg188
 z138 := Tryz.sizeOf188
 v138 := Tryz.zeroValue188
 t139 := Tryz.underlying189
 a139 := Tryz.isAgg189
 z139 := Tryz.sizeOf189
 v139 := Tryz.zeroValue189
 g3 := by kernel_rfl
 g4 := by kernel_rfl }
open Go.RowKit Go.Lib in
theorem Sh.utf8_ValidString (s : ByteArray) (w : World) (hs : s.size ≤ 9223372036854775807) (hT : Lib.Utf8Tabs (Sh.lays196_ren.g 3) (Sh.lays196_ren.g 4) w) :
  Calls Tryz.prog 105 #[.string s] w fun e w' => e = .returned (.bool (Lib.validD s.data.toList)) ∧ Below w.heap.size w w' := Any.utf8_ValidString Sh.lays196 s w hs hT
end
section
open Go.RowKit
abbrev sb (s : ByteArray) : List UInt8 := s.data.toList
theorem sb_length (s : ByteArray) : (sb s).length = s.size := by simp [sb]
theorem strCells_bv (s : ByteArray) : Lib.strCells s = (sb s).map bv := rfl
theorem wpList_append_str {P : Program} {w0 w : World} {ops : Array Oper} {rest : List Oper} {o : Oper} {a : Act} {Q : Exit → Act → World → Prop} (B : Nat) (hb : Below B w0 w) (hgd : o.guard = none) (s x : Operand) (t u : TypeId)
  (ho : o.op = .call { callee := .builtin .append, args := #[s, x], argTypes := #[t, u] })
  (base : Nat) (e : TypeId) (ht : P.underlying t = some (.slice e)) (hu : P.underlying u = some .string) (hi : (P.info? e).map (fun i => (i.zero, i.size, i.bytes)) = some (some (.int .u8 0), 1, 1))
  (v : Value) (n : Nat) (xs : List UInt8) (hs : a.eval s = v) (hown : w.ownsRow base e 1 v n (xs.map bv)) (str : ByteArray) (hx : a.eval x = .string str)
  (hn : n + str.size ≤ 140737488355328) (hbase : base ≤ w.heap.size) (hB : B ≤ base)
  (h : ∀ A' c' w', w'.ownsRow base e 1 (.slice A' (n + str.size) c') (n + str.size) ((xs ++ sb str).map bv) → Below B w0 w' → wpList P ops Q rest (a.put o.dst (.slice A' (n + str.size) c')) w') :
  wpList P ops Q (o :: rest) a w := by
 obtain ⟨i0, hi0, hz0, hz1, hz2⟩ := info_parts hi
 refine Lib.wpList_append_own_string _ hgd s x t u ho base e i0 ht hu hi0 hz0 hz1 hz2 v n _ hs hown str hx (by unfold maxLen; omega) hn hbase ?_
 intro v' w' hown' hg _
 obtain ⟨A, c, rfl, _, _⟩ := own_shape hown'
 refine h A c w' (by rw [List.map_append, ← strCells_bv]; exact hown') (hb.grown hg (Nat.le_trans hB hbase) ?_)
 intro k hk
 exact Nat.le_trans hB (hown.lt k hk).1
def inRB (n l m : Int) : Bool := decide (l ≤ n) && decide (n ≤ m)
theorem inRB_iff {n l m : Int} : inRB n l m = true ↔ l ≤ n ∧ n ≤ m := by simp [inRB]
theorem packWithin (n l m : Int) (w : World) : Calls Tryz.prog 151 #[.int .i64 n, .int .i64 l, .int .i64 m] w fun e w' => e = .returned (.bool (inRB n l m)) ∧ w = w' := by
 by_cases h1 : l ≤ n
 ·by_cases h2 : n ≤ m
  ·have H := Lib.hid (inRB_iff.2 ⟨h1, h2⟩ : inRB n l m = true)
   go_enter Tryz.func151, Tryz.ntmps151
   go_wp2
   go_ret
   exact ⟨by rw [H.out]; rfl, rfl⟩
  ·have H := Lib.hid (Bool.eq_false_iff.2 fun h => h2 (inRB_iff.1 h).2 : inRB n l m = false)
   go_enter Tryz.func151, Tryz.ntmps151
   go_wp2
   go_ret
   exact ⟨by rw [H.out]; rfl, rfl⟩
 ·have H := Lib.hid (Bool.eq_false_iff.2 fun h => h1 (inRB_iff.1 h).1 : inRB n l m = false)
  go_enter Tryz.func151, Tryz.ntmps151
  go_wp2
  go_ret
  exact ⟨by rw [H.out]; rfl, rfl⟩
theorem refId (n : Int) (w : World) : Calls Tryz.prog 74 #[.int .i64 n] w fun e w' => e = .returned (.bool (inRB n 1 65535)) ∧ w = w' := by
 by_cases h1 : (1 : Int) ≤ n
 ·by_cases h2 : n ≤ 65535
  ·have H := Lib.hid (inRB_iff.2 ⟨h1, h2⟩ : inRB n 1 65535 = true)
   go_enter Tryz.func74, Tryz.ntmps74
   go_wp2
   go_ret
   exact ⟨by rw [H.out]; rfl, rfl⟩
  ·have H := Lib.hid (Bool.eq_false_iff.2 fun h => h2 (inRB_iff.1 h).2 : inRB n 1 65535 = false)
   go_enter Tryz.func74, Tryz.ntmps74
   go_wp2
   go_ret
   exact ⟨by rw [H.out]; rfl, rfl⟩
 ·have H := Lib.hid (Bool.eq_false_iff.2 fun h => h1 (inRB_iff.1 h).1 : inRB n 1 65535 = false)
  go_enter Tryz.func74, Tryz.ntmps74
  go_wp2
  go_ret
  exact ⟨by rw [H.out]; rfl, rfl⟩
theorem refNumB (n m : Int) (w : World) : Calls Tryz.prog 24 #[.int .i64 n, .int .i64 m] w fun e w' => e = .returned (.bool (inRB n 0 m)) ∧ w = w' := by
 by_cases h1 : 0 ≤ n
 ·by_cases h2 : n ≤ m
  ·have H := Lib.hid (inRB_iff.2 ⟨h1, h2⟩ : inRB n 0 m = true)
   go_enter Tryz.func24, Tryz.ntmps24
   go_wp2
   go_ret
   exact ⟨by rw [H.out]; rfl, rfl⟩
  ·have H := Lib.hid (Bool.eq_false_iff.2 fun h => h2 (inRB_iff.1 h).2 : inRB n 0 m = false)
   go_enter Tryz.func24, Tryz.ntmps24
   go_wp2
   go_ret
   exact ⟨by rw [H.out]; rfl, rfl⟩
 ·have H := Lib.hid (Bool.eq_false_iff.2 fun h => h1 (inRB_iff.1 h).1 : inRB n 0 m = false)
  go_enter Tryz.func24, Tryz.ntmps24
  go_wp2
  go_ret
  exact ⟨by rw [H.out]; rfl, rfl⟩
theorem packBit (b : Bool) (n : Int) (w : World) : Calls Tryz.prog 161 #[.bool b, .int .i64 n] w fun e w' => e = .returned (.int .i64 (if b then n else 0)) ∧ w = w' := by
 cases b
 all_goals
  go_enter Tryz.func161, Tryz.ntmps161
  go_wp2
  go_ret
  exact ⟨rfl, rfl⟩
theorem refBit (b : Bool) (n : Int) (w : World) : Calls Tryz.prog 76 #[.bool b, .int .u8 n] w fun e w' => e = .returned (.int .u8 (if b then n else 0)) ∧ w = w' := by
 cases b
 all_goals
  go_enter Tryz.func76, Tryz.ntmps76
  go_wp2
  go_ret
  exact ⟨rfl, rfl⟩
theorem litTwo (v : Nat) (hv : v ≤ 65535) : (#[Value.int .u8 ((v : Int) / 256), .int .u8 ((v : Int) % 256)] : Array Value).toList = (big 2 v).map bv := by
 have h1 := byte_hi v hv
 have h2 := byte_lo v
 simp only [big, List.map, bv, Nat.pow_one, Nat.pow_zero, Nat.div_one, h1, h2]
theorem packTwo (base : Nat) (xs : List UInt8) (m : Nat) (A : Option Addr) (c : Nat) (vI : Int) (v : Nat) (hve : vI = (v : Int)) (hv : v ≤ 65535) (w : World)
  (hown : w.ownsRow base 5 1 (.slice A m c) m (xs.map bv)) (hbase : base ≤ w.heap.size) (hn : m ≤ 140737488351232) :
  Calls Tryz.prog 163 #[.slice A m c, .int .i64 vI] w fun e w' => ∃ A' c', e = .returned (.slice A' (m + 2) c') ∧ w'.ownsRow base 5 1 (.slice A' (m + 2) c') (m + 2) ((xs ++ big 2 v).map bv) ∧ Below base w w' := by
 subst hve
 have HO := Lib.hid (own_below hown (balloc w (.cells #[.int .u8 ((v : Int) / 256), .int .u8 ((v : Int) % 256)] 5)))
 have HR := Lib.hid (RB.lit w 5 #[.int .u8 ((v : Int) / 256), .int .u8 ((v : Int) % 256)] (0, 0) (big 2 v) (litTwo v hv))
 have HB := Lib.hid ((Below.refl base w).alloc hbase (.cells #[.int .u8 ((v : Int) / 256), .int .u8 ((v : Int) % 256)] 5))
 have hvI : (v : Int) ≤ 65535 := by omega
 clear hown
 go_enter Tryz.func163, Tryz.ntmps163
 go_wp2_with (at_builtin; refine wpList_append_bytes base HB.out rfl _ _ 31 rfl base 5 Tryz.underlying31 info_u8 _ _ xs (by exact rfl) HO.out (some ⟨w.heap.size, 0, none⟩) 2 2 (big 2 v) rfl (by exact rfl) HR.out (by omega) (by simp; omega) (Nat.le_refl _) ?_; intro A' c' w' hown' hb')
 go_ret
 exact ⟨A', c', rfl, hown', hb'⟩
theorem packText (base : Nat) (xs : List UInt8) (m : Nat) (A : Option Addr) (c : Nat) (s : ByteArray) (hs : s.size ≤ 65535) (w : World)
  (hown : w.ownsRow base 5 1 (.slice A m c) m (xs.map bv)) (hbase : base ≤ w.heap.size) (hn : m ≤ 140737488251232) :
  Calls Tryz.prog 162 #[.slice A m c, .string s] w fun e w' => ∃ A' c', e = .returned (.slice A' (m + 2 + s.size) c') ∧ w'.ownsRow base 5 1 (.slice A' (m + 2 + s.size) c') (m + 2 + s.size) ((xs ++ big 2 s.size ++ sb s).map bv) ∧ Below base w w' := by
 have K1 := Lib.hid (packTwo base xs m A c (s.size : Int) s.size rfl hs w hown hbase (by omega))
 clear hown
 go_enter Tryz.func162, Tryz.ntmps162
 go_wp2_with fail
 (with_reducible refine K1.out.mono ?_)
 rintro _ w1 ⟨A1, c1, rfl, ho1, hb1⟩
 have hs1 : base ≤ w1.heap.size := Nat.le_trans hbase hb1.size
 go_wp2_with (at_builtin; apply wpList_append_str base hb1 rfl _ _ 31 9 rfl base 5 Tryz.underlying31 Tryz.underlying9 info_u8 _ _ _ ?_ ho1 s ?_ ?_ hs1 (Nat.le_refl _) ?_; exact rfl; exact rfl; omega; intro A' c' w' hown' hb')
 go_ret
 exact ⟨A', c', rfl, hown', hb'⟩
end
section
open Go.RowKit
def plainOf : List UInt8 → Bool
 | [] => true
 | x :: xs => if x == 43 || x == 35 then false else plainOf xs
theorem sb_drop (s : ByteArray) (k : Nat) (h : k < s.size) : (sb s).drop k = s[k] :: (sb s).drop (k + 1) := by
 rw [List.drop_eq_getElem_cons (by rw [sb_length]; exact h)]
 rfl
theorem byte_eq (u v : UInt8) : ((u.toNat : Int) = (v.toNat : Int)) ↔ u = v := by
 constructor
 ·intro h
  exact UInt8.toNat_inj.1 (by omega)
 ·rintro rfl
  rfl
theorem plain_hit {xs zs ys : List UInt8} {u : UInt8} (hf : plainOf zs = plainOf xs) (hd : zs = u :: ys) (h : (u.toNat : Int) = 43 ∨ (u.toNat : Int) = 35) : plainOf xs = false := by
 rw [← hf, hd, plainOf]
 rcases h with h | h
 ·rw [(byte_eq u 43).1 h]; rfl
 ·rw [(byte_eq u 35).1 h]; rfl
theorem plain_miss {xs zs ys : List UInt8} {u : UInt8} (hf : plainOf zs = plainOf xs) (hd : zs = u :: ys) (h1 : ¬ (u.toNat : Int) = 43) (h2 : ¬ (u.toNat : Int) = 35) : plainOf ys = plainOf xs := by
 rw [← hf, hd, plainOf]
 have a : (u == 43) = false := by simpa using fun e => h1 (by rw [e]; rfl)
 have b : (u == 35) = false := by simpa using fun e => h2 (by rw [e]; rfl)
 rw [a, b]; rfl
theorem plain_end {xs zs : List UInt8} (hf : plainOf zs = plainOf xs) (hd : zs = []) : plainOf xs = true := by
 rw [← hf, hd]; rfl
theorem refPlain (s : ByteArray) (hs : s.size ≤ 140737488351232) (w : World) :
  Calls Tryz.prog 73 #[.string s] w fun e w' => e = .returned (.bool (plainOf (sb s))) ∧ w = w' := by
 have HF := Lib.hid (show plainOf ((sb s).drop 0) = plainOf (sb s) from rfl)
 go_enter Tryz.func73, Tryz.ntmps73
 go_wp2
 go_loop [2, 3] (fun v i => ∃ k : Nat, i = .int .i64 k ∧ v = .bool false ∧ k ≤ s.size ∧ Hid (plainOf ((sb s).drop k) = plainOf (sb s))) (fun _ i => s.size - (intOf i).toNat)
 case atStart => exact ⟨0, rfl, rfl, Nat.zero_le _, HF⟩
 case round =>
  obtain ⟨k, rfl, rfl, hk, hf⟩ := hrel
  by_cases hlt : k < s.size
  ·have hd := Lib.hid (sb_drop s k hlt)
   by_cases h1 : (s[k].toNat : Int) = 43
   ·have HP := Lib.hid (plain_hit hf.out hd.out (Or.inl h1))
    clear hf hd
    go_wp2
    go_ret
    exact ⟨by rw [HP.out]; rfl, rfl⟩
   ·by_cases h2 : (s[k].toNat : Int) = 35
    ·have HP := Lib.hid (plain_hit hf.out hd.out (Or.inr h2))
     clear hf hd
     go_wp2
     go_ret
     exact ⟨by rw [HP.out]; rfl, rfl⟩
    ·have HP := Lib.hid (plain_miss hf.out hd.out h1 h2)
     have e1 : ((s[k].toNat : Int) == 43) = false := by rw [beq_eq_false_iff_ne]; exact h1
     have e2 : ((s[k].toNat : Int) == 35) = false := by rw [beq_eq_false_iff_ne]; exact h2
     clear h1 h2
     clear hf hd
     go_wp2
     go_round
     case rel => exact ⟨k + 1, by go_num, rfl, by omega, HP⟩
     case measure => simp [intOf]; omega
  ·have HP := Lib.hid (plain_end hf.out (List.drop_eq_nil_of_le (by rw [sb_length]; omega)))
   clear hf
   go_wp2
   go_ret
   exact ⟨by rw [HP.out]; rfl, rfl⟩
end
section
open Go.RowKit
def noZero : List UInt8 → Bool
 | [] => true
 | x :: xs => if x == 0 then false else noZero xs
theorem zero_hit {xs zs ys : List UInt8} {u : UInt8} (hf : noZero zs = noZero xs) (hd : zs = u :: ys) (h : (u.toNat : Int) = 0) : noZero xs = false := by
 rw [← hf, hd, noZero, (byte_eq u 0).1 h]; rfl
theorem zero_miss {xs zs ys : List UInt8} {u : UInt8} (hf : noZero zs = noZero xs) (hd : zs = u :: ys) (h1 : ¬ (u.toNat : Int) = 0) : noZero ys = noZero xs := by
 rw [← hf, hd, noZero]
 have a : (u == 0) = false := by simpa using fun e => h1 (by rw [e]; rfl)
 rw [a]; rfl
theorem zero_end {xs zs : List UInt8} (hf : noZero zs = noZero xs) (hd : zs = []) : noZero xs = true := by
 rw [← hf, hd]; rfl
def textB (vb : Bool) (s : ByteArray) (l m : Int) : Bool := inRB s.size l m && (vb && noZero (sb s))
theorem refTextW (s : ByteArray) (hs : s.size ≤ 140737488351232) (l m : Int) (vb : Bool) (w : World)
  (hv : Calls Tryz.prog 105 #[.string s] w fun e w' => e = .returned (.bool vb) ∧ Below w.heap.size w w') :
  Calls Tryz.prog 71 #[.string s, .int .i64 l, .int .i64 m] w fun e w' => e = .returned (.bool (textB vb s l m)) ∧ Below w.heap.size w w' := by
 have HF := Lib.hid (show noZero ((sb s).drop 0) = noZero (sb s) from rfl)
 have HV := Lib.hid hv
 clear hv
 by_cases h1 : (s.size : Int) < l
 ·have HP := Lib.hid (show textB vb s l m = false by unfold textB; rw [show inRB s.size l m = false from Bool.eq_false_iff.2 fun h => absurd (inRB_iff.1 h).1 (by omega)]; rfl)
  go_enter Tryz.func71, Tryz.ntmps71
  go_wp2
  go_ret
  exact ⟨by rw [HP.out]; rfl, Below.refl _ _⟩
 by_cases h2 : m < (s.size : Int)
 ·have HP := Lib.hid (show textB vb s l m = false by unfold textB; rw [show inRB s.size l m = false from Bool.eq_false_iff.2 fun h => absurd (inRB_iff.1 h).2 (by omega)]; rfl)
  go_enter Tryz.func71, Tryz.ntmps71
  go_wp2
  go_ret
  exact ⟨by rw [HP.out]; rfl, Below.refl _ _⟩
 have HI : Hid (textB vb s l m = (vb && noZero (sb s))) := Lib.hid (by unfold textB; rw [inRB_iff.2 ⟨by omega, by omega⟩]; rfl)
 cases vb with
 | false =>
  go_enter Tryz.func71, Tryz.ntmps71
  go_wp2_with (go_at_call 105; (with_reducible refine HV.out.mono ?_); rintro _ w1 ⟨rfl, hb1⟩; have hb2 := Lib.hid hb1; clear hb1)
  go_ret
  exact ⟨by rw [HI.out]; rfl, hb2.out⟩
 | true =>
  go_enter Tryz.func71, Tryz.ntmps71
  go_wp2_with (go_at_call 105; (with_reducible refine HV.out.mono ?_); rintro _ w1 ⟨rfl, hb1⟩; have hb2 := Lib.hid hb1; clear hb1)
  clear HV
  go_loop [6, 7] (fun v i => ∃ k : Nat, i = .int .i64 k ∧ v = .bool false ∧ k ≤ s.size ∧ Hid (noZero ((sb s).drop k) = noZero (sb s))) (fun _ i => s.size - (intOf i).toNat)
  case atStart => exact ⟨0, rfl, rfl, Nat.zero_le _, HF⟩
  case round =>
   obtain ⟨k, rfl, rfl, hk, hf⟩ := hrel
   by_cases hlt : k < s.size
   ·have hd := Lib.hid (sb_drop s k hlt)
    by_cases h1 : (s[k].toNat : Int) = 0
    ·have HP := Lib.hid (zero_hit hf.out hd.out h1)
     clear hf hd
     go_wp2
     go_ret
     exact ⟨by rw [HI.out, HP.out]; rfl, hb2.out⟩
    ·have HP := Lib.hid (zero_miss hf.out hd.out h1)
     have e1 : ((s[k].toNat : Int) == 0) = false := by rw [beq_eq_false_iff_ne]; exact h1
     clear hf hd h1
     go_wp2
     go_round
     case rel => exact ⟨k + 1, by go_num, rfl, by omega, HP⟩
     case measure => simp [intOf]; omega
   ·have HP := Lib.hid (zero_end hf.out (List.drop_eq_nil_of_le (by rw [sb_length]; omega)))
    clear hf
    go_wp2
    go_ret
    exact ⟨by rw [HI.out, HP.out]; rfl, hb2.out⟩
end
section
open Go.RowKit
theorem packTextW (s : ByteArray) (_hs : s.size ≤ 140737488351232) (l m : Int) (vb : Bool) (w : World)
  (hv : Calls Tryz.prog 105 #[.string s] w fun e w' => e = .returned (.bool vb) ∧ Below w.heap.size w w')
  (hc : ∀ w1, Below w.heap.size w w1 → Calls Tryz.prog 168 #[.string s, .string { data := #[0] }] w1 fun e w' => e = .returned (.bool (!noZero (sb s))) ∧ Below w1.heap.size w1 w') :
  Calls Tryz.prog 165 #[.string s, .int .i64 l, .int .i64 m] w fun e w' => e = .returned (.bool (textB vb s l m)) ∧ Below w.heap.size w w' := by
 have HV := Lib.hid hv
 have HC := Lib.hid hc
 have HW := Lib.hid (packWithin (s.size : Int) l m w)
 clear hv hc
 cases hb : inRB s.size l m with
 | false =>
  rw [hb] at HW
  have HP := Lib.hid (show textB vb s l m = false by unfold textB; rw [hb]; rfl)
  go_enter Tryz.func165, Tryz.ntmps165
  go_wp2_with (go_at_call 151; (with_reducible refine HW.out.mono ?_); rintro _ w1 ⟨rfl, rfl⟩)
  go_ret
  exact ⟨by rw [HP.out]; rfl, Below.refl _ _⟩
 | true =>
  rw [hb] at HW
  have HI := Lib.hid (show textB vb s l m = (vb && noZero (sb s)) by unfold textB; rw [hb]; rfl)
  cases vb with
  | false =>
   go_enter Tryz.func165, Tryz.ntmps165
   go_wp2_with (first
    | (go_at_call 151; (with_reducible refine HW.out.mono ?_); rintro _ w1 ⟨rfl, rfl⟩)
    | (go_at_call 105; (with_reducible refine HV.out.mono ?_); rintro _ w2 ⟨rfl, hb2⟩; have HB2 := Lib.hid hb2; clear hb2))
   go_ret
   exact ⟨by rw [HI.out]; rfl, HB2.out⟩
  | true =>
   go_enter Tryz.func165, Tryz.ntmps165
   go_wp2_with (first
    | (go_at_call 151; (with_reducible refine HW.out.mono ?_); rintro _ w1 ⟨rfl, rfl⟩)
    | (go_at_call 105; (with_reducible refine HV.out.mono ?_); rintro _ w2 ⟨rfl, hb2⟩; have HB2 := Lib.hid hb2; clear hb2)
    | (go_at_call 168; (with_reducible refine (HC.out w2 HB2.out).mono ?_); rintro _ w3 ⟨rfl, hb3⟩; have HB3 := Lib.hid (HB2.out.trans (hb3.mono HB2.out.size)); clear hb3))
   go_ret
   exact ⟨by rw [HI.out]; simp, HB3.out⟩
end
section
open Go.RowKit
structure Mq where
 kind : Int
 client : ByteArray
 clean : Bool
 keep : Int
 won : Bool
 wt : ByteArray
 wp : ByteArray
 wq : Int
 wr : Bool
 user : ByteArray
 hu : Bool
 pass : ByteArray
 hp : Bool
 present : Bool
 code : Int
 codes : List Int
 dup : Bool
 qos : Int
 retain : Bool
 topic : ByteArray
 id : Int
 payload : ByteArray
 wishes : List (ByteArray × Int)
 filters : List ByteArray
abbrev nos : ByteArray := ⟨#[]⟩
def mq0 (k : Int) : Mq := ⟨k, nos, false, 0, false, nos, nos, 0, false, nos, false, nos, false, false, 0, [], false, 0, false, nos, 0, nos, [], []⟩
def vd (s : ByteArray) : Bool := Lib.validD (sb s)
def textOk (s : ByteArray) (l m : Int) : Bool := textB (vd s) s l m
def topicOk (s : ByteArray) : Bool := textOk s 1 64 && plainOf (sb s)
def emp (s : ByteArray) : Bool := s.size == 0
def willOk (m : Mq) : Bool := if m.won then textOk m.wt 1 64 && (decide ((m.wp.size : Int) ≤ 128) && inRB m.wq 0 2) else emp m.wt && (emp m.wp && (m.wq == 0 && !m.wr))
def connectOk (m : Mq) : Bool :=
 textOk m.client 0 23 && (inRB m.keep 0 65535 && (willOk m && (textOk m.user 0 64 && (decide ((m.pass.size : Int) ≤ 64) && ((m.hu || (emp m.user && !m.hp)) && (m.hp || emp m.pass))))))
def publishOk (m : Mq) : Bool :=
 topicOk m.topic && (inRB m.qos 0 2 && (((decide (0 < m.qos) && inRB m.id 1 65535) || (m.qos == 0 && (m.id == 0 && !m.dup))) && decide ((m.payload.size : Int) ≤ 128)))
def wishesAll : List (ByteArray × Int) → Bool
 | [] => true
 | x :: xs => (textOk x.1 1 64 && inRB x.2 0 2) && wishesAll xs
def codesAll : List Int → Bool
 | [] => true
 | x :: xs => (inRB x 0 2 || x == 128) && codesAll xs
def filtersAll : List ByteArray → Bool
 | [] => true
 | x :: xs => textOk x 1 64 && filtersAll xs
def wishesOk (l : List (ByteArray × Int)) : Bool := wishesAll l && inRB l.length 1 8
def codesOk (l : List Int) : Bool := codesAll l && inRB l.length 1 8
def filtersOk (l : List ByteArray) : Bool := filtersAll l && inRB l.length 1 8
def idKind (k : Int) : Bool := k == 4 || (k == 5 || (k == 6 || (k == 7 || k == 11)))
def bareKind (k : Int) : Bool := k == 12 || (k == 13 || k == 14)
def okOf (m : Mq) : Bool :=
 if m.kind = 1 then connectOk m
 else if m.kind = 2 then inRB m.code 0 5 && (!m.present || m.code == 0)
 else if m.kind = 3 then publishOk m
 else if idKind m.kind then inRB m.id 1 65535
 else if m.kind = 8 then inRB m.id 1 65535 && wishesOk m.wishes
 else if m.kind = 9 then inRB m.id 1 65535 && codesOk m.codes
 else if m.kind = 10 then inRB m.id 1 65535 && filtersOk m.filters
 else bareKind m.kind
def onlyOf (m : Mq) : Mq :=
 if m.kind = 1 then { mq0 m.kind with client := m.client, clean := m.clean, keep := m.keep, won := m.won, wt := m.wt, wp := m.wp, wq := m.wq, wr := m.wr, user := m.user, hu := m.hu, pass := m.pass, hp := m.hp }
 else if m.kind = 2 then { mq0 m.kind with present := m.present, code := m.code }
 else if m.kind = 3 then { mq0 m.kind with topic := m.topic, qos := m.qos, dup := m.dup, retain := m.retain, id := m.id, payload := m.payload }
 else if idKind m.kind then { mq0 m.kind with id := m.id }
 else if m.kind = 8 then { mq0 m.kind with id := m.id, wishes := m.wishes }
 else if m.kind = 9 then { mq0 m.kind with id := m.id, codes := m.codes }
 else if m.kind = 10 then { mq0 m.kind with id := m.id, filters := m.filters }
 else mq0 m.kind
def mayB (m : Mq) : Prop := okOf m = true ∧ m = onlyOf m
def strB (s : ByteArray) : List UInt8 := big 2 s.size ++ sb s
def cb (b : Bool) (n : Nat) : Nat := if b then n else 0
def flagsC (m : Mq) : Nat := cb m.clean 2 + cb m.won 4 + 8 * m.wq.toNat + cb m.wr 32 + cb m.hp 64 + cb m.hu 128
def connectBy (m : Mq) : List UInt8 :=
 big 2 4 ++ [77, 81, 84, 84] ++ [4, UInt8.ofNat (flagsC m)] ++ big 2 m.keep.toNat ++ strB m.client
  ++ (if m.won then strB m.wt ++ strB m.wp else []) ++ (if m.hu then strB m.user else []) ++ (if m.hp then strB m.pass else [])
def publishBy (m : Mq) : List UInt8 := strB m.topic ++ (if 0 < m.qos then big 2 m.id.toNat else []) ++ sb m.payload
def wishesBy : List (ByteArray × Int) → List UInt8
 | [] => []
 | x :: xs => strB x.1 ++ [UInt8.ofNat x.2.toNat] ++ wishesBy xs
def codesBy : List Int → List UInt8
 | [] => []
 | x :: xs => UInt8.ofNat x.toNat :: codesBy xs
def filtersBy : List ByteArray → List UInt8
 | [] => []
 | x :: xs => strB x ++ filtersBy xs
def bodyBy (m : Mq) : List UInt8 :=
 if m.kind = 1 then connectBy m
 else if m.kind = 2 then [UInt8.ofNat (cb m.present 1), UInt8.ofNat m.code.toNat]
 else if m.kind = 3 then publishBy m
 else if m.kind = 8 then big 2 m.id.toNat ++ wishesBy m.wishes
 else if m.kind = 9 then big 2 m.id.toNat ++ codesBy m.codes
 else if m.kind = 10 then big 2 m.id.toNat ++ filtersBy m.filters
 else if bareKind m.kind then []
 else big 2 m.id.toNat
def flagsBy (m : Mq) : Nat :=
 if m.kind = 3 then cb m.dup 8 + 2 * m.qos.toNat + cb m.retain 1
 else if m.kind = 8 then 2 else if m.kind = 10 then 2 else if m.kind = 6 then 2 else 0
def vlen (n : Nat) : List UInt8 := if n < 128 then [UInt8.ofNat n] else UInt8.ofNat (n % 128 + 128) :: vlen (n / 128)
decreasing_by omega
def layB (m : Mq) : List UInt8 := UInt8.ofNat (16 * m.kind.toNat + flagsBy m) :: (vlen (bodyBy m).length ++ bodyBy m)
end
section
open Go.RowKit
def Wd (w : World) : Prop := Lib.Utf8Tabs (Sh.lays196_ren.g 3) (Sh.lays196_ren.g 4) w
theorem Wd.below {w w' : World} (h : Wd w) (hb : Below w.heap.size w w') : Wd w' := by
 obtain ⟨h1, h2⟩ := h
 have k : ∀ (a : Addr) (v : Value), w.cell? a = some v → w'.cell? a = some v := fun a v hv => (hb.cell (World.block_lt_of_cell? w a hv)).trans hv
 exact ⟨fun c hc => k _ _ (h1 c hc), fun i hi => ⟨k _ _ (h2 i hi).1, k _ _ (h2 i hi).2⟩⟩
theorem validW (s : ByteArray) (hs : s.size ≤ 140737488351232) (w : World) (hT : Wd w) :
  Calls Tryz.prog 105 #[.string s] w fun e w' => e = .returned (.bool (vd s)) ∧ Below w.heap.size w w' := Sh.utf8_ValidString s w (by omega) hT
theorem contains_noZero (xs : List UInt8) : xs.contains 0 = !noZero xs := by
 induction xs with
 | nil => rfl
 | cons x xs ih =>
  by_cases h : x = 0
  ·subst h; simp [noZero]
  ·have h1 : (x == 0) = false := by simpa using h
   have h2 : ((0 : UInt8) == x) = false := by simpa using fun e => h e.symm
   simp only [List.contains_cons, h2, Bool.false_or, ih, noZero, h1]
   rfl
theorem zeroW (s : ByteArray) (w : World) :
  Calls Tryz.prog 168 #[.string s, .string { data := #[0] }] w fun e w' => e = .returned (.bool (!noZero (sb s))) ∧ w = w' := by
 refine (Sh.strings_Contains_one s 0 w).mono ?_
 rintro e w' ⟨rfl, rfl⟩
 refine ⟨?_, rfl⟩
 rw [← contains_noZero, Lib.contains_iff_indexByte]
theorem quiet_add_same {P : Program} {f : FuncId} {args : Array Value} {w : World} {a n : Nat} {v : Value}
  (h : Calls P f args (w.drewN (a + n)) fun e w' => e = .returned v ∧ w' = w.drewN (a + n)) :
  Calls P f args (w.drewN (a + n)) fun e w'' => e = .returned v ∧ ∃ m, w'' = w.drewN (a + m) :=
 h.mono fun _ _ ⟨he, hm⟩ => ⟨he, n, hm⟩
theorem same_left {P : Program} {f : FuncId} {args : Array Value} {w : World} {v : Value} (h : Calls P f args w fun e w' => e = .returned v ∧ w' = w) : Calls P f args w fun e w' => e = .returned v ∧ w = w' :=
 h.mono fun _ _ ⟨a, b⟩ => ⟨a, b.symm⟩
abbrev pm : ByteArray := { data := #[43, 35] }
theorem decode_span (s : ByteArray) (pos : Nat) (h : pos < s.size) (ha : 128 ≤ (s[pos]'h).toNat) : ∀ j, j < (Utf8.decode s pos).2 → pos + j < s.size ∧ 128 ≤ (s.get! (pos + j)).toNat := by
 have h0 : 128 ≤ (s.get! (pos + 0)).toNat := by rw [get_at s pos h]; exact ha
 have hn : ¬ (s.get! (pos + 0)).toNat < 128 := by omega
 have hp : pos + 0 < s.size := h
 intro j hj
 simp only [Utf8.decode, hn, if_false] at hj
 have k2 : ∀ k, (decide (pos + k < s.size) && ((s.get! (pos + k)).toNat / 64 == 2)) = true → pos + k < s.size ∧ 128 ≤ (s.get! (pos + k)).toNat := by
  intro k hk
  simp only [Bool.and_eq_true, decide_eq_true_eq, beq_iff_eq] at hk
  exact ⟨hk.1, by omega⟩
 have one : ∀ {j}, j < 1 → pos + j < s.size ∧ 128 ≤ (s.get! (pos + j)).toNat := fun {j} hj => by
  obtain rfl : j = 0 := by omega
  exact ⟨hp, h0⟩
 split at hj
 ·rename_i hc
  simp only [Bool.and_eq_true] at hc
  split at hj
  ·have hj' : j = 0 ∨ j = 1 := by simp only at hj; omega
   rcases hj' with rfl | rfl
   ·exact ⟨hp, h0⟩
   ·exact k2 1 (by simpa using hc.2)
  ·exact one hj
 ·split at hj
  ·rename_i hc
   simp only [Bool.and_eq_true] at hc
   split at hj
   ·have hj' : j = 0 ∨ j = 1 ∨ j = 2 := by simp only at hj; omega
    rcases hj' with rfl | rfl | rfl
    ·exact ⟨hp, h0⟩
    ·exact k2 1 (by simpa using hc.1.2)
    ·exact k2 2 (by simpa using hc.2)
   ·exact one hj
  ·split at hj
   ·rename_i hc
    simp only [Bool.and_eq_true] at hc
    split at hj
    ·have hj' : j = 0 ∨ j = 1 ∨ j = 2 ∨ j = 3 := by simp only at hj; omega
     rcases hj' with rfl | rfl | rfl | rfl
     ·exact ⟨hp, h0⟩
     ·exact k2 1 (by simpa using hc.1.1.2)
     ·exact k2 2 (by simpa using hc.1.2)
     ·exact k2 3 (by simpa using hc.2)
    ·exact one hj
   ·exact one hj
theorem plain_skip (s : ByteArray) (pos : Nat) : ∀ n, (∀ j, j < n → pos + j < s.size ∧ 128 ≤ (s.get! (pos + j)).toNat) → plainOf ((sb s).drop (pos + n)) = plainOf ((sb s).drop pos)
 | 0, _ => rfl
 | n + 1, h => by
  rw [← plain_skip s pos n (fun j hj => h j (by omega))]
  obtain ⟨h1, h2⟩ := h n (by omega)
  have e : s.get! (pos + n) = s[pos + n]'h1 := get_at s (pos + n) h1
  rw [e] at h2
  rw [sb_drop s (pos + n) h1, plainOf]
  have a : (s[pos + n] == 43) = false := by rw [beq_eq_false_iff_ne]; intro e; rw [e] at h2; exact absurd h2 (by decide)
  have b : (s[pos + n] == 35) = false := by rw [beq_eq_false_iff_ne]; intro e; rw [e] at h2; exact absurd h2 (by decide)
  rw [a, b]
  rfl
theorem runeHigh (r : Int) (h1 : 128 ≤ r) (h2 : r ≤ 2147483647) (w : World) :
  Calls Tryz.prog 173 #[.string pm, .int .i32 r] w fun e w' => e = .returned (.int .i64 (-1)) ∧ Below w.heap.size w w' := by
 have h0 : (0 : Int) ≤ r := by omega
 have h128 : decide (r < 128) = false := decide_eq_false (by omega)
 by_cases hE : r = 65533
 ·subst hE
  go_enter Tryz.func173, Tryz.ntmps173
  go_wp2
  go_loopg [5, 6] 2 (fun gk _ _ wx => ∃ i : Nat, i + gk = 2 ∧ wx = w.iter pm i)
  case atStart => exact ⟨0, rfl, rfl⟩
  case round =>
   obtain ⟨i, hig, rfl⟩ := hrel
   cases gk with
   | zero =>
    obtain rfl : i = 2 := by omega
    have hnx := run_next_end (P := Tryz.prog) w pm 2
    go_wp2
    go_ret
    exact ⟨rfl, balloc w _⟩
   | succ g =>
    have hi : i = 0 ∨ i = 1 := by omega
    rcases hi with rfl | rfl
    ·have hnx := fun ty => run_next_ascii (P := Tryz.prog) w pm 0 ty (by decide) (by decide)
     go_wp2
     go_roundg g
     case measure => omega
     case rel => exact ⟨1, by omega, rfl⟩
    ·have hnx := fun ty => run_next_ascii (P := Tryz.prog) w pm 1 ty (by decide) (by decide)
     go_wp2
     go_roundg g
     case measure => omega
     case rel => exact ⟨2, by omega, rfl⟩
 ·have hE' : (r == 65533) = false := by rw [beq_eq_false_iff_ne]; exact hE
  have KV := Lib.hid (Sh.utf8_ValidRune r w)
  cases hv : Lib.validRune r with
  | false =>
   rw [hv] at KV
   go_enter Tryz.func173, Tryz.ntmps173
   go_wp2_with (go_at_call 182; (with_reducible refine KV.out.mono ?_); rintro _ w' ⟨rfl, rfl⟩)
   go_ret
   exact ⟨rfl, Below.refl _ _⟩
  | true =>
   rw [hv] at KV
   have hu : Utf8.valid r = true := by
    have := hv
    simp only [Lib.validRune, decide_eq_true_eq] at this
    simp [Utf8.valid]
    omega
   obtain ⟨s2, s4, slast⟩ := encode_facts r hu h1
   obtain ⟨nd, hnd⟩ : ∃ nd, Utf8.encode r = nd := ⟨_, rfl⟩
   rw [hnd] at s2 s4 slast
   have hs : nd.size = 2 ∨ 2 < nd.size := by omega
   clear hu
   rcases hs with hs | hs
   ·have hl : 128 ≤ (nd[1]'(by omega)).toNat := by
     have := slast (by omega)
     simpa [hs] using this
    have hi1 : (1 : Nat) < nd.size := by omega
    have hi1I : (1 : Int) < (nd.size : Int) := by omega
    obtain ⟨y, hy⟩ : ∃ y, nd[1]'(by omega) = y := ⟨_, rfl⟩
    rw [hy] at hl
    have hne : (((pm[1]'(by decide)).toNat : Int) != (y.toNat : Int)) = true := by
     have : (pm[1]'(by decide)).toNat = 35 := rfl
     rw [bne_iff_ne, this]
     omega
    go_enter Tryz.func173, Tryz.ntmps173
    go_wp2_with (go_at_call 182; (with_reducible refine KV.out.mono ?_); rintro _ w' ⟨rfl, rfl⟩)
    refine wp_scope_fwd 1 rfl ?_
    go_wp2
    refine wp_loop_rounds 1 ?_
    rw [rounds_succ]
    go_wp2
    refine wp_scope_fwd 0 rfl ?_
    go_wp2
    go_quiet (fail)
    go_wp2
    have hw2 : IntKind.i64.wrap 2 = 2 := by decide
    have hix : ∀ c : UInt8, Lib.indexByte (pm.extract 2 2).data.toList c = -1 := fun c => rfl
    go_quiet ((go_at_call 181; exact quiet_add_same (Sh.strings_IndexByte _ _ _)))
    go_wp2
    simp only [Exit.jump]
    go_wp2
    simp only [Exit.jump]
    go_ret
    exact ⟨rfl, below_drewN (Below.refl _ _) _⟩
   ·have e1 : (2 : Int) ≤ (nd.size : Int) - 1 := by omega
    go_enter Tryz.func173, Tryz.ntmps173
    go_wp2_with (go_at_call 182; (with_reducible refine KV.out.mono ?_); rintro _ w' ⟨rfl, rfl⟩)
    refine wp_scope_fwd 1 rfl ?_
    go_wp2
    refine wp_loop_rounds 1 ?_
    rw [rounds_succ]
    go_wp2
    simp only [Exit.jump]
    go_ret
    exact ⟨rfl, Below.refl _ _⟩
theorem plain_any (xs : List UInt8) : decide (0 ≤ Lib.indexAny xs (sb pm)) = !plainOf xs := by
 induction xs with
 | nil => rfl
 | cons x xs ih =>
  have h1 := Lib.indexAny_ge (sb pm) xs
  by_cases h : x = 43 ∨ x = 35
  ·have hc : (sb pm).contains x = true := by rcases h with rfl | rfl <;> rfl
   have hp : plainOf (x :: xs) = false := by rw [plainOf]; rcases h with rfl | rfl <;> rfl
   rw [hp, Lib.indexAny, if_pos hc]
   rfl
  ·have a : (x == 43) = false := by rw [beq_eq_false_iff_ne]; exact fun e => h (Or.inl e)
   have b : (x == 35) = false := by rw [beq_eq_false_iff_ne]; exact fun e => h (Or.inr e)
   have hc : (sb pm).contains x = false := by
    show [(43 : UInt8), 35].contains x = false
    rw [List.contains_cons, List.contains_cons, List.contains_nil, a, b]
    rfl
   have hp : plainOf (x :: xs) = plainOf xs := by rw [plainOf, a, b]; rfl
   rw [hp, ← ih, Lib.indexAny, hc, if_neg (by simp)]
   by_cases hm : Lib.indexAny xs (sb pm) = -1
   ·rw [hm]; rfl
   ·have hm2 : (Lib.indexAny xs (sb pm) == -1) = false := by rw [beq_eq_false_iff_ne]; exact hm
    rw [hm2]
    have h0 : 0 ≤ Lib.indexAny xs (sb pm) := by omega
    rw [if_neg (by simp), decide_eq_true h0, decide_eq_true (by omega)]
def AnyPm (s : ByteArray) (w : World) (e : Ending) (w' : World) : Prop := ∃ v : Int, e = .returned (.int .i64 v) ∧ decide (0 ≤ v) = !plainOf (sb s) ∧ Below w.heap.size w w'
theorem anyLong (s : ByteArray) (h8 : 8 < s.size) (hs : s.size < 4294967281) (w : World) : Calls Tryz.prog 171 #[.string s, .string pm] w (AnyPm s w) := by
 refine (Sh.strings_IndexAny_long (fun _ => by kernel_rfl) s pm w (by decide) h8 hs (by decide) ?_).mono ?_
 ·intro j b hb
  match j, hb with
  | 0, hb => simp at hb; subst hb; decide
  | 1, hb => simp at hb; subst hb; decide
 ·rintro e w' ⟨rfl, rfl⟩
  exact ⟨_, rfl, plain_any (sb s), (balloc w _).trans ((balloc _ _).mono (balloc w _).size)⟩
theorem anyShort (s : ByteArray) (h8 : s.size ≤ 8) (w : World) : Calls Tryz.prog 171 #[.string s, .string pm] w (AnyPm s w) := by
 have h8z : decide ((8 : Int) < (s.size : Int)) = false := decide_eq_false (by omega)
 go_enter Tryz.func171, Tryz.ntmps171
 go_wp2_with (go_at_call 174; (with_reducible refine (same_left (Sh.strings_shouldUseASCIISet _ _)).mono ?_); rintro e w' ⟨rfl, rfl⟩)
 go_loopg [9, 10] (s.size + 1) (fun gk _ _ wx => ∃ (i : Nat), s.size < i + gk ∧ i ≤ s.size ∧ Hid (wx.heap[w.heap.size]? = some (.stringIter s i)) ∧ Below w.heap.size w wx ∧ Hid (plainOf ((sb s).drop i) = plainOf (sb s)))
 case atStart => exact ⟨0, by omega, by omega, World.iter_heap w s 0, balloc w _, rfl⟩
 case round =>
  obtain ⟨i, hig, his, hk, hbel, hp⟩ := hrel
  by_cases hi : i < s.size
  ·have hd := sb_drop s i hi
   by_cases ha : (s[i]'hi).toNat < 128
   ·obtain ⟨x, hx⟩ : ∃ x : UInt8, s[i]'hi = x := ⟨_, rfl⟩
    rw [hx] at ha hd
    have hnx := fun ty => Lib.run_next_ascii_at (P := Tryz.prog) wr w.heap.size s i ty hk.out hi (by rw [hx]; exact ha)
    rw [hx] at hnx
    have hback : ((x.toNat : Int)).toNat.toUInt8 = x := by simp
    have KR := Lib.hid (fun w1 => same_left (Sh.strings_IndexRune_ascii pm (x.toNat : Int) w1 (by omega) (by omega)))
    rw [hback] at KR
    obtain ⟨v, hv⟩ : ∃ v, Lib.indexByte pm.data.toList x = v := ⟨_, rfl⟩
    rw [hv] at KR
    have hb2 := Lib.hid (Lib.below_iterAt hbel (Nat.le_refl _) s (i + 1))
    have hk2 : Hid ((wr.iterAt w.heap.size s (i + 1)).heap[w.heap.size]? = some (.stringIter s (i + 1))) := Lib.iterAt_heap wr w.heap.size s i (i + 1) hk.out
    have hg1 : 1 ≤ gk := by omega
    by_cases hb : x = 43 ∨ x = 35
    ·have hge : 0 ≤ v := by
      rw [← hv]
      rcases hb with rfl | rfl <;> decide
     have hf : Hid (plainOf (sb s) = false) := by
      unfold Hid
      rw [← hp.out, hd, plainOf]
      rcases hb with rfl | rfl <;> rfl
     clear hb hv hback hd hx hp ha
     go_wp2_with (go_at_call 173; (with_reducible refine (KR.out _).mono ?_); rintro _ w2 ⟨rfl, rfl⟩)
     go_ret
     exact ⟨(i : Int), rfl, by rw [hf.out]; exact decide_eq_true (by omega), hb2.out⟩
    ·have hlt : ¬ 0 ≤ v := by
      rw [← hv]
      have a : (43 : UInt8) ≠ x := fun e => hb (Or.inl e.symm)
      have b : (35 : UInt8) ≠ x := fun e => hb (Or.inr e.symm)
      have hc : pm.data.toList.contains x = false := by
       simp [Ne.symm a, Ne.symm b]
      rw [Lib.contains_iff_indexByte] at hc
      exact of_decide_eq_false hc
     have hf : Hid (plainOf ((sb s).drop (i + 1)) = plainOf (sb s)) := by
      unfold Hid
      rw [← hp.out, hd, plainOf]
      have a : (x == 43) = false := by rw [beq_eq_false_iff_ne]; exact fun e => hb (Or.inl e)
      have b : (x == 35) = false := by rw [beq_eq_false_iff_ne]; exact fun e => hb (Or.inr e)
      rw [a, b]
      rfl
     clear hb hv hback hd hx hp ha
     go_wp2_with (go_at_call 173; (with_reducible refine (KR.out _).mono ?_); rintro _ w2 ⟨rfl, rfl⟩)
     go_roundg (gk - 1)
     case measure => omega
     case rel => exact ⟨i + 1, by omega, by omega, hk2, hb2.out, hf⟩
   ·have hsp := decode_span s i hi (by omega)
    obtain ⟨d1, d2⟩ := decode_high s i hi (by omega)
    have d3 := decode_le s i
    have hnx := fun ty => Lib.run_next_any_at (P := Tryz.prog) wr w.heap.size s i ty hk.out hi
    have hf := plain_skip s i _ hsp
    obtain ⟨⟨r, n⟩, hrn⟩ : ∃ q, Utf8.decode s i = q := ⟨_, rfl⟩
    rw [hrn] at hsp d1 d2 d3 hnx hf
    dsimp only at hsp d1 d2 d3 hnx hf
    have hle : i + n ≤ s.size := by have := (hsp (n - 1) (by omega)).1; omega
    have KR := Lib.hid (fun w1 => runeHigh (r : Int) (by omega) (by omega) w1)
    have hf2 : Hid (plainOf ((sb s).drop (i + n)) = plainOf (sb s)) := hf.trans hp.out
    have hb2 := Lib.hid (Lib.below_iterAt hbel (Nat.le_refl _) s (i + n))
    have hk2 : Hid ((wr.iterAt w.heap.size s (i + n)).heap[w.heap.size]? = some (.stringIter s (i + n))) := Lib.iterAt_heap wr w.heap.size s i (i + n) hk.out
    have hlt : w.heap.size < (wr.iterAt w.heap.size s (i + n)).heap.size := (Array.getElem?_eq_some_iff.1 hk2.out).1
    clear hf hd hp hsp hrn ha
    go_wp2_with (go_at_call 173; (with_reducible refine (KR.out _).mono ?_); rintro _ w2 ⟨rfl, hb3⟩; have HB3 := Lib.hid hb3; clear hb3)
    go_roundg (gk - 1)
    case measure => omega
    case rel => exact ⟨i + n, by omega, by omega, (HB3.out.block _ hlt).trans hk2.out, hb2.out.trans (HB3.out.mono (Nat.le_of_lt hlt)), hf2⟩
  ·have hnx := Lib.run_next_end_at (P := Tryz.prog) wr w.heap.size s i
   have hnx2 := fun ty => hnx ty hk.out hi
   obtain rfl : i = s.size := by omega
   have hf : Hid (plainOf (sb s) = true) := by
    unfold Hid
    rw [← hp.out, List.drop_eq_nil_of_le (by rw [sb_length]; exact Nat.le_refl _)]
    rfl
   clear hp hnx
   go_wp2
   go_ret
   exact ⟨-1, rfl, by rw [hf.out]; rfl, hbel⟩
theorem anyW (s : ByteArray) (hs : s.size < 4294967281) (w : World) :
  Calls Tryz.prog 169 #[.string s, .string pm] w fun e w' => e = .returned (.bool (!plainOf (sb s))) ∧ Below w.heap.size w w' := by
 have K : Calls Tryz.prog 171 #[.string s, .string pm] w (AnyPm s w) := by
  rcases Nat.lt_or_ge 8 s.size with h | h
  ·exact anyLong s h hs w
  ·exact anyShort s h w
 unfold AnyPm at K
 generalize (!plainOf (sb s)) = v at *
 have HK := Lib.hid K
 clear K
 go_enter Tryz.func169, Tryz.ntmps169
 go_wp2_with fail
 (with_reducible refine HK.out.mono ?_)
 rintro _ w1 ⟨n, rfl, hn, hb⟩
 have HN := Lib.hid hn
 have HB := Lib.hid hb
 clear HK hn hb
 go_wp2
 go_ret
 exact ⟨by rw [← HN.out]; rfl, HB.out⟩
theorem refTextV (s : ByteArray) (hs : s.size ≤ 140737488351232) (l m : Int) (w : World) (hT : Wd w) :
  Calls Tryz.prog 71 #[.string s, .int .i64 l, .int .i64 m] w fun e w' => e = .returned (.bool (textOk s l m)) ∧ Below w.heap.size w w' :=
 refTextW s hs l m (vd s) w (validW s hs w hT)
theorem packTextV (s : ByteArray) (hs : s.size ≤ 140737488351232) (l m : Int) (w : World) (hT : Wd w) :
  Calls Tryz.prog 165 #[.string s, .int .i64 l, .int .i64 m] w fun e w' => e = .returned (.bool (textOk s l m)) ∧ Below w.heap.size w w' :=
 packTextW s hs l m (vd s) w (validW s hs w hT) (fun w1 _ => (zeroW s w1).mono fun _ _ ⟨h1, h2⟩ => ⟨h1, h2 ▸ Below.refl _ _⟩)
theorem textOk_size {s : ByteArray} {l m : Int} (h : textOk s l m = true) : l ≤ s.size ∧ (s.size : Int) ≤ m := by
 unfold textOk textB at h
 rw [Bool.and_eq_true] at h
 exact inRB_iff.1 h.1
theorem packTopicV (s : ByteArray) (hs : s.size ≤ 140737488351232) (w : World) (hT : Wd w) :
  Calls Tryz.prog 167 #[.string s] w fun e w' => e = .returned (.bool (topicOk s)) ∧ Below w.heap.size w w' := by
 have HT := Lib.hid (packTextV s hs 1 64 w hT)
 unfold topicOk
 cases hb : textOk s 1 64 with
 | false =>
  rw [hb] at HT
  go_enter Tryz.func167, Tryz.ntmps167
  go_wp2_with (go_at_call 165; (with_reducible refine HT.out.mono ?_); rintro _ w2 ⟨rfl, hb2⟩; have HB2 := Lib.hid hb2; clear hb2)
  go_ret
  exact ⟨rfl, HB2.out⟩
 | true =>
  have HA := Lib.hid (fun w1 => anyW s (by have := (textOk_size hb).2; omega) w1)
  rw [hb] at HT
  go_enter Tryz.func167, Tryz.ntmps167
  go_wp2_with (first
   | (go_at_call 165; (with_reducible refine HT.out.mono ?_); rintro _ w2 ⟨rfl, hb2⟩; have HB2 := Lib.hid hb2; clear hb2)
   | (go_at_call 169; (with_reducible refine (HA.out w2).mono ?_); rintro _ w3 ⟨rfl, hb3⟩; have HB3 := Lib.hid (HB2.out.trans (hb3.mono HB2.out.size)); clear hb3))
  go_ret
  exact ⟨by simp, HB3.out⟩
end
section
open Go.RowKit
abbrev Rd := List UInt8 × Bool
def takeP (s : Rd) (n : Nat) : List UInt8 × Rd :=
 if s.2 = false ∧ n ≤ s.1.length then (s.1.take n, (s.1.drop n, false)) else (List.replicate n 0, (s.1, true))
abbrev mkS (xs : List UInt8) : ByteArray := ⟨xs.toArray⟩
def oneP (s : Rd) : UInt8 × Rd := ((takeP s 1).1.headD 0, (takeP s 1).2)
def twoP (s : Rd) : Nat × Rd := ((oneP s).1.toNat * 256 + (oneP (oneP s).2).1.toNat, (oneP (oneP s).2).2)
def textP (s : Rd) : ByteArray × Rd := (mkS (takeP (twoP s).2 (twoP s).1).1, (takeP (twoP s).2 (twoP s).1).2)
def bitB (f : UInt8) (n : UInt8) : Bool := f &&& n != 0
structure Conn where
 f : UInt8
 k : Nat × Rd
 c : ByteArray × Rd
 t : ByteArray × Rd
 y : ByteArray × Rd
 u : ByteArray × Rd
 q : ByteArray × Rd
 s : Rd
def connOf (one : Rd → UInt8 × Rd) (two : Rd → Nat × Rd) (text : Rd → ByteArray × Rd) (s : Rd) : Conn :=
 let f := one s
 let k := two f.2
 let c := text k.2
 let t := text c.2
 let y := text t.2
 let s5 := if bitB f.1 4 then y.2 else c.2
 let u := text s5
 let s6 := if bitB f.1 128 then u.2 else s5
 let q := text s6
 let s7 := if bitB f.1 64 then q.2 else s6
 ⟨f.1, k, c, t, y, u, q, s7⟩
def Conn.mq (r : Conn) : Mq :=
 { mq0 1 with
  keep := r.k.1, client := r.c.1, clean := bitB r.f 2, hp := bitB r.f 64, hu := bitB r.f 128, won := bitB r.f 4,
  wt := (if bitB r.f 4 then r.t.1 else nos), wp := (if bitB r.f 4 then r.y.1 else nos), wq := (if bitB r.f 4 then ((r.f >>> 3 &&& 3).toNat : Int) else 0), wr := (bitB r.f 4 && bitB r.f 32),
  user := (if bitB r.f 128 then r.u.1 else nos), pass := (if bitB r.f 64 then r.q.1 else nos) }
def connP (s : Rd) : Conn := connOf oneP twoP textP (takeP s 7).2
def pubMq (f : UInt8) (t : ByteArray) (i : Nat) (p : ByteArray) : Mq :=
 { mq0 3 with dup := bitB f 8, qos := ((f >>> 1 &&& 3).toNat : Int), retain := bitB f 1, topic := t, id := (if f >>> 1 &&& 3 != 0 then (i : Int) else 0), payload := p }
def pubP (f : UInt8) (s : Rd) : Mq × Rd :=
 let t := textP s
 let i := twoP t.2
 let s2 := if f >>> 1 &&& 3 != 0 then i.2 else t.2
 let p := takeP s2 s2.1.length
 (pubMq f t.1 i.1 (mkS p.1), p.2)
def loopP (k : Int) : Nat → Mq → Rd → Mq × Rd
 | 0, m, s => (m, s)
 | f + 1, m, s =>
  if s.2 = false ∧ 0 < s.1.length then
   if k = 8 then loopP k f { m with wishes := m.wishes ++ [((textP s).1, ((oneP (textP s).2).1.toNat : Int))] } (oneP (textP s).2).2
   else if k = 9 then loopP k f { m with codes := m.codes ++ [((oneP s).1.toNat : Int)] } (oneP s).2
   else loopP k f { m with filters := m.filters ++ [(textP s).1] } (textP s).2
  else (m, s)
def listKind (k : Int) : Bool := k == 8 || (k == 9 || k == 10)
def readP (k : Int) (f : UInt8) (s : Rd) : Mq × Rd :=
 if k = 1 then ((connP s).mq, (connP s).s)
 else if k = 2 then ({ mq0 k with present := (oneP s).1 == 1, code := ((oneP (oneP s).2).1.toNat : Int) }, (oneP (oneP s).2).2)
 else if k = 3 then pubP f s
 else if listKind k then loopP k ((twoP s).2.1.length + 1) { mq0 k with id := ((twoP s).1 : Int) } (twoP s).2
 else if idKind k then ({ mq0 k with id := ((twoP s).1 : Int) }, (twoP s).2)
 else (mq0 k, s)
theorem takeP_app (a b : List UInt8) (n : Nat) (h : a.length = n) : takeP (a ++ b, false) n = (a, (b, false)) := by
 subst h; unfold takeP; rw [if_pos ⟨rfl, by simp⟩]; simp
theorem oneP_cons (x : UInt8) (b : List UInt8) : oneP (x :: b, false) = (x, (b, false)) := by
 unfold oneP; rw [show x :: b = [x] ++ b from rfl, takeP_app [x] b 1 rfl]; rfl
theorem big2 (n : Nat) : big 2 n = [UInt8.ofNat (n / 256), UInt8.ofNat n] := by simp [big]
theorem twoP_big (n : Nat) (h : n < 65536) (b : List UInt8) : twoP (big 2 n ++ b, false) = (n, (b, false)) := by
 unfold twoP
 rw [big2]
 simp only [List.cons_append, List.nil_append, oneP_cons, UInt8.toNat_ofNat']
 congr 1
 omega
theorem mkS_sb (s : ByteArray) : mkS (sb s) = s := by
 cases s; simp [mkS, sb]
theorem textP_str (s : ByteArray) (h : s.size < 65536) (b : List UInt8) : textP (strB s ++ b, false) = (s, (b, false)) := by
 unfold textP strB
 rw [List.append_assoc, twoP_big _ h]
 simp only []
 rw [takeP_app _ _ s.size (sb_length s)]
end
section
open Go.RowKit
def RdAt (w : World) (B g : Nat) (s : Rd) : Prop :=
 ∃ A c, s.1.length ≤ c ∧ w.cell? ⟨g, 0, none⟩ = some (.slice A s.1.length c) ∧ w.cell? ⟨g, 1, none⟩ = some (.bool s.2) ∧
  w.frozen? ⟨g, 0, none⟩ = false ∧ w.frozen? ⟨g, 1, none⟩ = false ∧ RB w B A s.1 ∧ B ≤ g ∧ g < w.heap.size
theorem RdAt.of {w : World} {B g : Nat} {A : Option Addr} {xs : List UInt8} {bad : Bool} {n c : Nat} (hl : xs.length = n) (hc : n ≤ c) (c0 : w.cell? ⟨g, 0, none⟩ = some (.slice A n c)) (c1 : w.cell? ⟨g, 1, none⟩ = some (.bool bad))
  (f0 : w.frozen? ⟨g, 0, none⟩ = false) (f1 : w.frozen? ⟨g, 1, none⟩ = false) (hr : RB w B A xs) (hB : B ≤ g) (hg : g < w.heap.size) : RdAt w B g (xs, bad) := by
 subst hl; exact ⟨A, c, hc, c0, c1, f0, f1, hr, hB, hg⟩
theorem RdAt.kept {w w' : World} {B g : Nat} {s : Rd} {row : Option Nat} (h : RdAt w B g s) (hg : w.grownBy w' row) (hB : ∀ k, row = some k → B ≤ k) (hne : some g ≠ row) : RdAt w' B g s := by
 obtain ⟨A, c, hc, c0, c1, f0, f1, hr, hBg, hlt⟩ := h
 have hk : ∀ p : Addr, p.block < w.heap.size → some p.block ≠ row → w'.cell? p = w.cell? p := fun p hp hn => World.cell?_of_block (hg.block _ hp hn)
 have hf : ∀ p : Addr, p.block < w.heap.size → some p.block ≠ row → w'.frozen? p = w.frozen? p := fun p hp hn => World.frozen?_of_block (hg.block _ hp hn)
 refine ⟨A, c, hc, (hk ⟨g, 0, none⟩ hlt hne).trans c0, (hk ⟨g, 1, none⟩ hlt hne).trans c1, (hf ⟨g, 0, none⟩ hlt hne).trans f0, (hf ⟨g, 1, none⟩ hlt hne).trans f1, ?_, hBg, Nat.lt_of_lt_of_le hlt hg.size⟩
 refine hr.keep fun p hp => hk p (by omega) (fun e => ?_)
 have := hB _ e.symm
 omega
theorem zeros_bv (n : Nat) : (madeCells (Value.cells (.int .u8 0)) (n * 1)).toList = (List.replicate n (0 : UInt8)).map bv := by
 rw [Nat.mul_one]
 apply List.ext_getElem?
 intro j
 rcases Nat.lt_or_ge j n with h | h
 ·simp [madeCells, Value.cells, h, Nat.mod_one]
 ·simp [madeCells, Value.cells, h]
theorem wpList_make_bytes {P : Program} {w : World} {ops : Array Oper} {rest : List Oper} {o : Oper} {a : Act} {Q : Exit → Act → World → Prop}
  (hg : o.guard = none) (l c : Operand) (t e : TypeId) (hop : o.op = Op.makeSlice t l c) (ht : P.underlying t = some (.slice e)) (hi : (P.info? e).map (fun i => (i.zero, i.size, i.bytes)) = some (some (.int .u8 0), 1, 1))
  (n : Nat) (hl : a.eval l = .int .i64 (n : Int)) (hc : a.eval c = .int .i64 (n : Int)) (hn : n ≤ 1000000)
  (hK : ∀ w', RB w' w'.heap.size (some ⟨w.heap.size, 0, none⟩) (List.replicate n 0) → w.grownBy w' none → wpList P ops Q rest (a.put o.dst (.slice (some ⟨w.heap.size, 0, none⟩) n n)) w') :
  wpList P ops Q (o :: rest) a w := by
 obtain ⟨i0, hi0, hz0, hz1, hz2⟩ := info_parts hi
 refine wpList_make_full w hg l c t hop w.heap.size e i0 (.int .u8 0) 1 ht hi0 hz0 hz1 .i64 .i64 (n : Int) (n : Int) n hl hc rfl rfl (by rw [hz2]; omega) (by unfold maxLen; omega) (Nat.le_refl _) ?_
 intro w' ho hgr
 rw [zeros_bv] at ho
 exact hK w' (RB.of_ownN ho) hgr
theorem takeP_bad (s : Rd) (n : Nat) (h : ¬ (s.2 = false ∧ n ≤ s.1.length)) : takeP s n = (List.replicate n 0, (s.1, true)) := by unfold takeP; rw [if_neg h]
theorem takeP_ok (s : Rd) (n : Nat) (h : s.2 = false ∧ n ≤ s.1.length) : takeP s n = (s.1.take n, (s.1.drop n, false)) := by unfold takeP; rw [if_pos h]
def Took (w : World) (B g n : Nat) (r : List UInt8 × Rd) (e : Ending) (w' : World) : Prop :=
 ∃ A' c', e = .returned (.slice A' n c') ∧ n ≤ c' ∧ r.1.length = n ∧ RB w' w'.heap.size A' r.1 ∧ RdAt w' B g r.2 ∧ w.grownBy w' (some g)
theorem took_bad {w w1 w' : World} {B g n c H : Nat} (_hH : w1.heap.size = H) {A : Option Addr} {xs : List UInt8} (hc : xs.length ≤ c) (c0 : w1.cell? ⟨g, 0, none⟩ = some (.slice A xs.length c)) (c1 : w1.cell? ⟨g, 1, none⟩ = some (.bool true))
  (f0 : w1.frozen? ⟨g, 0, none⟩ = false) (f1 : w1.frozen? ⟨g, 1, none⟩ = false) (hr : RB w1 B A xs) (hB : B ≤ g) (hg : g < w1.heap.size) (h1 : w.grownBy w1 (some g))
  (hr2 : RB w' w'.heap.size (some ⟨H, 0, none⟩) (List.replicate n 0)) (h2 : w1.grownBy w' none) :
  Took w B g n (List.replicate n 0, (xs, true)) (.returned (.slice (some ⟨H, 0, none⟩) n n)) w' := by
 refine ⟨_, _, rfl, Nat.le_refl _, by simp, hr2, ?_, h1.trans (grown_row h2 _)⟩
 have : RdAt w1 B g (xs, true) := RdAt.of rfl hc c0 c1 f0 f1 hr hB hg
 exact this.kept h2 (by simp) (by simp)
theorem took_ok {w : World} {B g n c : Nat} {A : Option Addr} {xs : List UInt8} (hc : xs.length ≤ c) (hle : n ≤ xs.length) (c0 : w.cell? ⟨g, 0, none⟩ = some (.slice A xs.length c)) (c1 : w.cell? ⟨g, 1, none⟩ = some (.bool false))
  (f0 : w.frozen? ⟨g, 0, none⟩ = false) (f1 : w.frozen? ⟨g, 1, none⟩ = false) (hr : RB w B A xs) (hB : B ≤ g) (hg : g < w.heap.size) :
  Took w B g n (xs.take n, (xs.drop n, false)) (.returned (.slice A n c)) ((w.setCell ⟨g, 0, none⟩ (.slice (if c = n then A else A.map (·.add n)) (xs.length - n) (c - n))).drew) := by
 have hO := (Only.refl g w).set 0 (.slice (if c = n then A else A.map (·.add n)) (xs.length - n) (c - n))
 refine ⟨_, _, rfl, by omega, by simp; omega, ?_, ?_, ?_⟩
 ·exact ((hr.take n).only hO hB).more (by show B ≤ (w.setCell _ _).heap.size; rw [size_setCell']; omega)
 ·refine RdAt.of (w := (w.setCell ⟨g, 0, none⟩ _).drew) (A := (if c = n then A else A.map (·.add n))) (n := xs.length - n) (c := c - n) (by simp) (by omega) ?_ ?_ ?_ ?_ ?_ hB ?_
  ·exact World.cell?_setCell_same _ _ _ c0
  ·show (w.setCell _ _).cell? _ = _
   rw [World.cell?_setCell_other _ _ _ _ (by simp)]; exact c1
  ·show (w.setCell _ _).frozen? _ = _
   simpa using f0
  ·show (w.setCell _ _).frozen? _ = _
   simpa using f1
  ·exact (hr.cut hle hc).only hO.drew hB
  ·show g < (w.setCell _ _).heap.size
   rw [size_setCell']; exact hg
 ·have := grown_setCell w g 0 (.slice (if c = n then A else A.map (·.add n)) (xs.length - n) (c - n))
  exact ⟨this.os, this.tape, this.output, this.size, this.block⟩
theorem packTake (B g : Nat) (s : Rd) (n : Nat) (nI : Int) (hn : nI = (n : Int)) (hn' : n ≤ 1000000) (w : World) (h : RdAt w B g s) :
    Calls Tryz.prog 143 #[.pointer (some ⟨g, 0, none⟩), .int .i64 nI] w (Took w B g n (takeP s n)) := by
  subst hn
  obtain ⟨xs, bad⟩ := s
  obtain ⟨A, c, hc, c0, c1, f0, f1, hr, hB, hg⟩ := h
  dsimp only at hc c0 c1 hr
  by_cases hok : bad = false ∧ n ≤ xs.length
  · rw [takeP_ok _ _ hok]
    obtain ⟨rfl, hle⟩ := hok
    have hnI : (n : Int) ≤ (xs.length : Int) := by omega
    have hnc : (n : Int) ≤ (c : Int) := by omega
    have hnI' : n ≤ c := by omega
    have hn0 : (0 : Int) ≤ (n : Int) := by omega
    have HT := Lib.hid (took_ok hc hle c0 c1 f0 f1 hr hB hg)
    clear hr
    by_cases hcn : c = n
    · subst hcn
      rw [if_pos rfl, show xs.length - c = 0 by omega, Nat.sub_self] at HT
      go_enter Tryz.func143, Tryz.ntmps143
      go_wp2
      refine wp_scope_fwd 0 rfl ?_
      go_wp2
      go_region
      all_goals
        go_wp2
        simp only [Exit.jump]
        go_ret
        exact HT.out
    · rw [if_neg hcn] at HT
      go_enter Tryz.func143, Tryz.ntmps143
      go_wp2
      refine wp_scope_fwd 0 rfl ?_
      go_wp2
      go_region
      all_goals
        go_wp2
        simp only [Exit.jump]
        go_ret
        exact HT.out
  · rw [takeP_bad _ _ hok]
    have c1' : (w.setCell ⟨g, 1, none⟩ (.bool true)).cell? ⟨g, 1, none⟩ = some (.bool true) := World.cell?_setCell_same _ _ _ c1
    have HT : ∀ w', RB w' w'.heap.size (some ⟨w.heap.size, 0, none⟩) (List.replicate n 0) → (w.setCell ⟨g, 1, none⟩ (.bool true)).grownBy w' none → Took w B g n (List.replicate n 0, (xs, true)) (.returned (.slice (some ⟨w.heap.size, 0, none⟩) n n)) w' := by
      intro w' h1 h2
      refine took_bad (A := A) (by simp [World.setCell]) hc ?_ c1' ?_ ?_ ?_ hB ?_ (grown_setCell w g 1 _) h1 h2
      · rw [World.cell?_setCell_other _ _ _ _ (by simp)]; exact c0
      · simpa using f0
      · simpa using f1
      · exact hr.only ((Only.refl g w).set 1 _) hB
      · simpa [World.setCell] using hg
    have HT' := Lib.hid HT
    clear HT c1' hr
    have hh : bad = true ∨ (bad = false ∧ (xs.length : Int) < (n : Int)) := by
      cases bad
      · exact Or.inr ⟨rfl, by have : ¬ n ≤ xs.length := fun h => hok ⟨rfl, h⟩
                              omega⟩
      · exact Or.inl rfl
    clear hok
    rcases hh with rfl | ⟨rfl, hlt⟩
    all_goals
      go_enter Tryz.func143, Tryz.ntmps143
      go_wp2
      refine wp_scope_fwd 0 rfl ?_
      go_wp2
      go_step3
      refine ⟨rfl, ?_⟩
      go_wp2_with (apply wpList_make_bytes rfl _ _ 31 5 rfl Tryz.underlying31 info_u8 n ?_ ?_ hn' ?_; exact rfl; exact rfl; intro w2 hr2 hg2)
      simp only [Exit.jump]
      go_ret
      rw [size_setCell'] at hr2
      exact HT'.out w2 hr2 hg2
end
section
open Go.RowKit
def Rdd (w : World) (B g : Nat) (v : Value) (s : Rd) (e : Ending) (w' : World) : Prop := e = .returned v ∧ RdAt w' B g s ∧ w.grownBy w' (some g)
theorem headD_of {xs : List UInt8} {x : UInt8} (h : xs[0]? = some x) : xs.headD 0 = x := by
 cases xs with
 | nil => cases h
 | cons y ys => simpa using h
theorem packOne (B g : Nat) (s : Rd) (w : World) (h : RdAt w B g s) :
  Calls Tryz.prog 140 #[.pointer (some ⟨g, 0, none⟩)] w (Rdd w B g (.int .i64 ((oneP s).1.toNat : Int)) (oneP s).2) := by
 have K := Lib.hid (packTake B g s 1 1 rfl (by omega) w h)
 clear h
 unfold oneP
 generalize takeP s 1 = r at *
 obtain ⟨V, hV⟩ : ∃ V, r.1.headD 0 = V := ⟨_, rfl⟩
 rw [hV]
 have HV := Lib.hid hV
 clear hV
 go_enter Tryz.func140, Tryz.ntmps140
 go_wp2_with fail
 (with_reducible refine K.out.mono ?_)
 rintro _ w1 ⟨A, c, rfl, hc, hl, hr, hR, hg⟩
 obtain ⟨b, o, x, rfl, _, hx, cx⟩ := hr.get (k := 0) (by omega)
 rw [Nat.add_zero] at cx
 obtain rfl : x = V := (headD_of hx).symm.trans HV.out
 have hub : (x.toNat : Int) < 256 := by have := x.toNat_lt; omega
 have HR := Lib.hid hR
 clear hl hr hx hR K HV
 go_wp2
 go_ret
 exact ⟨rfl, HR.out, hg⟩
theorem packTwoR (B g : Nat) (s : Rd) (w : World) (h : RdAt w B g s) :
  Calls Tryz.prog 142 #[.pointer (some ⟨g, 0, none⟩)] w (Rdd w B g (.int .i64 ((twoP s).1 : Int)) (twoP s).2) := by
 have K := Lib.hid (packOne B g s w h)
 clear h
 have HO := Lib.hid (or_shl (oneP s).1.toNat (oneP (oneP s).2).1 (by have := (oneP s).1.toNat_lt; omega))
 have K2 := Lib.hid (fun w1 h1 => packOne B g (oneP s).2 w1 h1)
 have e2 : twoP s = ((oneP s).1.toNat * 256 + (oneP (oneP s).2).1.toNat, (oneP (oneP s).2).2) := rfl
 rw [e2]
 clear e2
 have h1 := (oneP s).1.toNat_lt
 have h2 := (oneP (oneP s).2).1.toNat_lt
 generalize (oneP s).2 = s1 at *
 generalize (oneP s).1.toNat = x1 at *
 generalize hx2 : (oneP s1).1 = x2 at *
 generalize (oneP s1).2 = s2 at *
 clear hx2
 have i1 : (x1 : Int) ≤ 255 := by omega
 go_enter Tryz.func142, Tryz.ntmps142
 go_wp2_with fail
 (with_reducible refine K.out.mono ?_)
 rintro _ w1 ⟨rfl, hR, hg⟩
 go_wp2_with fail
 (with_reducible refine (K2.out w1 hR).mono ?_)
 rintro _ w2 ⟨rfl, hR2, hg2⟩
 clear K K2 hR
 go_wp2
 go_ret
 exact ⟨by rw [HO.out]; rfl, hR2, hg.trans hg2⟩
theorem RB.bytes_of {w : World} {B : Nat} {ad : Addr} {xs : List UInt8} (h : RB w B (some ad) xs) : ∀ j (hj : j < xs.length), w.cell? (ad.add j) = some (.int .u8 (xs[j].toNat : Int)) := by
 intro j hj
 obtain ⟨ad', x, e, _, hx, hc⟩ := h.at_ hj
 injection e with e
 subst e
 rw [hc, List.getElem?_eq_getElem hj] at *
 injection hx with hx
 rw [hx]
theorem run_string_of {P : Program} {w : World} {src dst e : TypeId} (hs : P.underlying src = some (.slice e)) (he : P.underlying e = some (.int .u8)) (hd : P.underlying dst = some .string) {B : Nat} {A : Option Addr} {xs : List UInt8} (h : RB w B A xs) {n : Nat} (hn : xs.length = n) (c : Nat) :
  (convert src dst (.slice A n c)).run P w = .ok (.string (mkS xs)) w := by
 subst hn
 cases A with
 | none =>
  have h0 : xs = [] := by
   rcases Nat.eq_zero_or_pos xs.length with h0 | h0
   ·exact List.eq_nil_of_length_eq_zero h0
   ·obtain ⟨_, e, _⟩ := h.2 h0; cases e
  subst h0
  exact Lib.run_convert_nil_bytes w src dst e c hs he hd
 | some ad => exact run_convert_bytes_back w src dst e ad c xs hs he hd h.bytes_of
theorem twoP_lt (s : Rd) : (twoP s).1 < 65536 := by
 have h1 := (oneP s).1.toNat_lt
 have h2 := (oneP (oneP s).2).1.toNat_lt
 show (oneP s).1.toNat * 256 + (oneP (oneP s).2).1.toNat < 65536
 omega
theorem packTextR (B g : Nat) (s : Rd) (w : World) (h : RdAt w B g s) :
  Calls Tryz.prog 141 #[.pointer (some ⟨g, 0, none⟩)] w (Rdd w B g (.string (textP s).1) (textP s).2) := by
 have K := Lib.hid (packTwoR B g s w h)
 clear h
 have K2 := Lib.hid (fun w1 h1 => packTake B g (twoP s).2 (twoP s).1 ((twoP s).1 : Int) rfl (by have := twoP_lt s; omega) w1 h1)
 unfold textP
 generalize twoP s = t at *
 obtain ⟨n, s1⟩ := t
 generalize takeP s1 n = r at *
 obtain ⟨ys, s2⟩ := r
 go_enter Tryz.func141, Tryz.ntmps141
 go_wp2_with fail
 (with_reducible refine K.out.mono ?_)
 rintro _ w1 ⟨rfl, hR, hg⟩
 go_wp2_with fail
 (with_reducible refine (K2.out w1 hR).mono ?_)
 rintro _ w2 ⟨A, c, rfl, hc, hl, hr, hR2, hg2⟩
 have hrun := run_string_of (P := Tryz.prog) (src := 31) (dst := 9) (e := 5) Tryz.underlying31 Tryz.underlying5 Tryz.underlying9 hr hl c
 clear K K2 hR hr hl
 go_wp2
 go_ret
 exact ⟨rfl, hR2, hg.trans hg2⟩
theorem packMore (B g : Nat) (s : Rd) (w : World) (h : RdAt w B g s) :
  Calls Tryz.prog 164 #[.pointer (some ⟨g, 0, none⟩)] w fun e w' => e = .returned (.bool (!s.2 && decide (0 < s.1.length))) ∧ w = w' := by
 obtain ⟨xs, bad⟩ := s
 obtain ⟨A, c, hc, c0, c1, f0, f1, hr, hB, hg⟩ := h
 dsimp only at hc c0 c1 hr
 clear hr f0 f1
 cases bad with
 | true =>
  go_enter Tryz.func164, Tryz.ntmps164
  go_wp2
  go_ret
  exact ⟨rfl, rfl⟩
 | false =>
  by_cases h0 : 0 < xs.length
  ·have e1 : (0 : Int) < (xs.length : Int) := by omega
   have HD := Lib.hid (decide_eq_true h0)
   clear h0
   go_enter Tryz.func164, Tryz.ntmps164
   go_wp2
   go_ret
   exact ⟨by rw [HD.out]; rfl, rfl⟩
  ·have e1 : ¬ (0 : Int) < (xs.length : Int) := by omega
   have HD := Lib.hid (decide_eq_false h0)
   clear h0
   go_enter Tryz.func164, Tryz.ntmps164
   go_wp2
   go_ret
   exact ⟨by rw [HD.out]; rfl, rfl⟩
end
section
open Go.RowKit
abbrev mqCells (m : Mq) (vc vw vf : Value) : List Value :=
 [iz m.kind, .string m.client, .bool m.clean, iz m.keep, .bool m.won, .string m.wt, .string m.wp, iz m.wq, .bool m.wr, .string m.user, .bool m.hu, .string m.pass,
  .bool m.hp, .bool m.present, iz m.code, vc, .bool m.dup, iz m.qos, .bool m.retain, .string m.topic, iz m.id, .string m.payload, vw, vf]
theorem RdAt.store {w : World} {B g : Nat} {s : Rd} (h : RdAt w B g s) {a : Addr} (ha : B ≤ a.block) (hne : a.block ≠ g) (v : Value) : RdAt (w.setCell a v) B g s := by
 obtain ⟨A, c, hc, c0, c1, f0, f1, hr, hB, hg⟩ := h
 refine ⟨A, c, hc, ?_, ?_, ?_, ?_, ?_, hB, ?_⟩
 ·rw [World.cell?_setCell_other _ _ _ _ (by intro e; exact hne (by rw [e]))]; exact c0
 ·rw [World.cell?_setCell_other _ _ _ _ (by intro e; exact hne (by rw [e]))]; exact c1
 ·simpa using f0
 ·simpa using f1
 ·exact hr.keep fun p hp => World.cell?_setCell_other _ _ _ _ (by intro e; rw [← e] at hp; omega)
 ·rw [size_setCell']; exact hg
theorem bits_and_u8 (f : UInt8) (n : Nat) (hn : n < 256) : bits .and .i64 (f.toNat : Int) (n : Int) = ((f.toNat &&& n : Nat) : Int) := by
 have := f.toNat_lt
 exact i64_and_nat f.toNat n (by omega) (by omega)
theorem bitB_iff (f : UInt8) (n : Nat) (hn : n < 256) : bitB f (UInt8.ofNat n) = (bits .and .i64 (f.toNat : Int) (n : Int) != 0) := by
 rw [bits_and_u8 f n hn]
 unfold bitB
 have e : (f &&& UInt8.ofNat n).toNat = f.toNat &&& n := by
  rw [UInt8.toNat_and, UInt8.toNat_ofNat', Nat.mod_eq_of_lt (by omega)]
 by_cases h : f &&& UInt8.ofNat n = 0
 ·have e2 : f.toNat &&& n = 0 := by rw [← e, h]; rfl
  rw [h, e2]; rfl
 ·have e2 : ¬ f.toNat &&& n = 0 := by
   intro h2; rw [← e] at h2; exact h (UInt8.toNat_inj.1 (by rw [h2]; rfl))
  have a1 : (f &&& UInt8.ofNat n != 0) = true := by simpa using h
  have a2 : (((f.toNat &&& n : Nat) : Int) != 0) = true := by
   rw [bne_iff_ne]; omega
  rw [a1, a2]
end
section
open Go.RowKit
theorem info_int : (Tryz.prog.info? 3).map (fun i => (i.zero, i.size, i.bytes)) = some (some (iz 0), 1, 8) := by kernel_rfl
theorem info_string : (Tryz.prog.info? 9).map (fun i => (i.zero, i.size, i.bytes)) = some (some (.string ⟨#[]⟩), 1, 16) := by kernel_rfl
theorem info_wish : (Tryz.prog.info? 161).map (fun i => (i.zero, i.size, i.bytes)) = some (some (.agg #[.string ⟨#[]⟩, iz 0]), 2, 24) := by kernel_rfl
theorem takeP_good (s : Rd) (n : Nat) (h : (takeP s n).2.2 = false) : s.2 = false ∧ (takeP s n).2.1.length + n = s.1.length := by
 unfold takeP at h ⊢
 split
 ·rename_i h1
  rw [if_pos h1] at h
  exact ⟨h1.1, by simp; omega⟩
 ·rename_i h1
  rw [if_neg h1] at h
  cases h
theorem oneP_good (s : Rd) (h : (oneP s).2.2 = false) : s.2 = false ∧ (oneP s).2.1.length + 1 = s.1.length := takeP_good s 1 h
theorem twoP_good (s : Rd) (h : (twoP s).2.2 = false) : s.2 = false ∧ (twoP s).2.1.length + 2 = s.1.length := by
 obtain ⟨a, b⟩ := oneP_good (oneP s).2 h
 obtain ⟨c, d⟩ := oneP_good s a
 have : (twoP s).2.1 = (oneP (oneP s).2).2.1 := rfl
 rw [this]
 exact ⟨c, by omega⟩
theorem textP_good (s : Rd) (h : (textP s).2.2 = false) : s.2 = false ∧ (textP s).2.1.length + 2 ≤ s.1.length := by
 obtain ⟨a, b⟩ := takeP_good (twoP s).2 (twoP s).1 h
 obtain ⟨c, d⟩ := twoP_good s a
 have : (textP s).2.1 = (takeP (twoP s).2 (twoP s).1).2.1 := rfl
 rw [this]
 exact ⟨c, by omega⟩
theorem RdAt.drew {w : World} {B g : Nat} {s : Rd} (h : RdAt w B g s) : RdAt w.drew B g s := h
theorem RdAt.row_of {w w' : World} {B g : Nat} {s : Rd} {base : Nat} {e : TypeId} {size n : Nat} {v : Value} {xs : List Value} (h : RdAt w B g s) (hO : w.ownsRow base e size v n xs) (hg : g < base) (o : Obj) (h3 : (w.alloc o).grownBy w' v.ownBlock) : RdAt w' B g s := by
 have hB : B ≤ g := by obtain ⟨_, _, _, _, _, _, _, _, h, _⟩ := h; exact h
 have h1 : RdAt (w.alloc o) B g s := h.kept (World.grownBy_alloc w o none) (by simp) (by simp)
 exact h1.kept h3 (fun k hk => by have := (hO.lt k hk).1; omega) (own_ne hO (Or.inl hg))
theorem takeP_le (s : Rd) (n : Nat) : (takeP s n).2.1.length ≤ s.1.length := by
 unfold takeP; split <;> simp
theorem twoP_le (s : Rd) : (twoP s).2.1.length ≤ s.1.length := Nat.le_trans (takeP_le (oneP s).2 1) (takeP_le s 1)
end
section
open Go.RowKit
theorem zero_mq (w : World) : (zeroValue 49).run Tryz.prog w = .ok (.agg (mqCells (mq0 0) nilV nilV nilV).toArray) w := by kernel_rfl
theorem size_mq : (Tryz.prog.info? 49).map (·.size) = some 24 := by kernel_rfl
end
section
open Go.RowKit
def willB2 (on : Bool) (t b : ByteArray) (q : Int) (r : Bool) : Bool := if on then textOk t 1 64 && (decide ((b.size : Int) ≤ 128) && inRB q 0 2) else emp t && (emp b && (q == 0 && !r))
theorem willOk_eq (m : Mq) : willOk m = willB2 m.won m.wt m.wp m.wq m.wr := rfl
theorem emp_true {s : ByteArray} (h : s.toList = []) : emp s = true := by
 rw [Lib.toList_data] at h
 have : s.size = 0 := by rw [← sb_length]; show s.data.toList.length = 0; rw [h]; rfl
 unfold emp
 rw [this]
 rfl
theorem emp_false {s : ByteArray} (h : ¬ s.toList = []) : emp s = false := by
 rw [Lib.toList_data] at h
 unfold emp
 rw [beq_eq_false_iff_ne]
 intro e
 rw [← sb_length] at e
 exact h (List.eq_nil_of_length_eq_zero e)
theorem packWillOff (t b : ByteArray) (q : Int) (r : Bool) (w : World) :
  Calls Tryz.prog 166 #[.agg #[.bool false, .string t, .string b, .int .i64 q, .bool r]] w fun e w' => e = .returned (.bool (willB2 false t b q r)) ∧ Below w.heap.size w w' := by
 obtain ⟨X, hX⟩ : ∃ X, willB2 false t b q r = X := ⟨_, rfl⟩
 rw [hX]
 have HX := Lib.hid hX
 clear hX
 have HB := Lib.hid (fun r f => (Below.refl w.heap.size w).alloc (Nat.le_refl _) (.cells r f))
 by_cases h1 : t.toList = []
 ·have E1 := Lib.hid (emp_true h1)
  by_cases h2 : b.toList = []
  ·have E2 := Lib.hid (emp_true h2)
   by_cases h3 : q = 0
   ·subst h3
    cases r
    all_goals
     go_enter Tryz.func166, Tryz.ntmps166
     go_wp2
     go_ret
     exact ⟨by rw [← HX.out]; unfold willB2; rw [E1.out, E2.out]; rfl, HB.out _ _⟩
   ·have h3' : (q == 0) = false := by rw [beq_eq_false_iff_ne]; exact h3
    have E3 := Lib.hid h3'
    go_enter Tryz.func166, Tryz.ntmps166
    go_wp2
    go_ret
    exact ⟨by rw [← HX.out]; unfold willB2; rw [E1.out, E2.out, E3.out]; rfl, HB.out _ _⟩
  ·have E2 := Lib.hid (emp_false h2)
   go_enter Tryz.func166, Tryz.ntmps166
   go_wp2
   go_ret
   exact ⟨by rw [← HX.out]; unfold willB2; rw [E1.out, E2.out]; rfl, HB.out _ _⟩
 ·have E1 := Lib.hid (emp_false h1)
  go_enter Tryz.func166, Tryz.ntmps166
  go_wp2
  go_ret
  exact ⟨by rw [← HX.out]; unfold willB2; rw [E1.out]; rfl, HB.out _ _⟩
theorem packWillOn (t b : ByteArray) (q : Int) (r : Bool) (ht : t.size ≤ 140737488351232) (w : World) (hT : Wd w) :
  Calls Tryz.prog 166 #[.agg #[.bool true, .string t, .string b, .int .i64 q, .bool r]] w fun e w' => e = .returned (.bool (willB2 true t b q r)) ∧ Below w.heap.size w w' := by
 have hb0 := Lib.hid (balloc w (.cells #[.bool true, .string t, .string b, .int .i64 q, .bool r] 44))
 have HT := Lib.hid (packTextV t ht 1 64 _ (hT.below hb0.out))
 clear hT
 have hlt : w.heap.size < (w.alloc (.cells #[.bool true, .string t, .string b, .int .i64 q, .bool r] 44)).heap.size := lt_alloc _ _
 have HN := Lib.hid (fun w1 => packWithin q 0 2 w1)
 generalize hX : textOk t 1 64 = X at HT
 generalize hY : inRB q 0 2 = Y at HN
 have HP := Lib.hid (show willB2 true t b q r = (X && (decide ((b.size : Int) ≤ 128) && Y)) by unfold willB2; rw [hX, hY]; rfl)
 generalize willB2 true t b q r = Z at *
 clear hX hY
 go_enter Tryz.func166, Tryz.ntmps166
 go_wp2_with fail
 (with_reducible refine HT.out.mono ?_)
 rintro _ w1 ⟨rfl, hb1⟩
 have HB1 := Lib.hid (hb0.out.trans (hb1.mono (Nat.le_of_lt hlt)))
 have c2 : w1.cell? ⟨w.heap.size, 2, none⟩ = some (.string b) := by rw [cellB hb1 hlt]; simp
 have c3 : w1.cell? ⟨w.heap.size, 3, none⟩ = some (.int .i64 q) := by rw [cellB hb1 hlt]; simp
 clear HT hb1 hb0
 by_cases h1 : (b.size : Int) ≤ 128
 ·rw [decide_eq_true h1] at HP
  cases X
  all_goals
   go_wp2_with (go_at_call 151; (with_reducible refine (HN.out w1).mono ?_); rintro _ w2 ⟨rfl, rfl⟩)
   go_ret
   exact ⟨by rw [HP.out]; rfl, HB1.out⟩
 ·rw [decide_eq_false h1] at HP
  cases X
  all_goals
   go_wp2_with (go_at_call 151; (with_reducible refine (HN.out w1).mono ?_); rintro _ w2 ⟨rfl, rfl⟩)
   go_ret
   exact ⟨by rw [HP.out]; rfl, HB1.out⟩
theorem packWillV (on : Bool) (t b : ByteArray) (q : Int) (r : Bool) (ht : t.size ≤ 140737488351232) (w : World) (hT : Wd w) :
  Calls Tryz.prog 166 #[.agg #[.bool on, .string t, .string b, .int .i64 q, .bool r]] w fun e w' => e = .returned (.bool (willB2 on t b q r)) ∧ Below w.heap.size w w' := by
 cases on
 ·exact packWillOff t b q r w
 ·exact packWillOn t b q r ht w hT
theorem refWillOff (t b : ByteArray) (q : Int) (r : Bool) (w : World) :
  Calls Tryz.prog 72 #[.agg #[.bool false, .string t, .string b, .int .i64 q, .bool r]] w fun e w' => e = .returned (.bool (willB2 false t b q r)) ∧ Below w.heap.size w w' := by
 obtain ⟨X, hX⟩ : ∃ X, willB2 false t b q r = X := ⟨_, rfl⟩
 rw [hX]
 have HX := Lib.hid hX
 clear hX
 have HB := Lib.hid (fun r f => (Below.refl w.heap.size w).alloc (Nat.le_refl _) (.cells r f))
 by_cases h1 : t.toList = []
 ·have E1 := Lib.hid (emp_true h1)
  by_cases h2 : b.toList = []
  ·have E2 := Lib.hid (emp_true h2)
   by_cases h3 : q = 0
   ·subst h3
    cases r
    all_goals
     go_enter Tryz.func72, Tryz.ntmps72
     go_wp2
     go_ret
     exact ⟨by rw [← HX.out]; unfold willB2; rw [E1.out, E2.out]; rfl, HB.out _ _⟩
   ·have h3' : (q == 0) = false := by rw [beq_eq_false_iff_ne]; exact h3
    have E3 := Lib.hid h3'
    go_enter Tryz.func72, Tryz.ntmps72
    go_wp2
    go_ret
    exact ⟨by rw [← HX.out]; unfold willB2; rw [E1.out, E2.out, E3.out]; rfl, HB.out _ _⟩
  ·have E2 := Lib.hid (emp_false h2)
   go_enter Tryz.func72, Tryz.ntmps72
   go_wp2
   go_ret
   exact ⟨by rw [← HX.out]; unfold willB2; rw [E1.out, E2.out]; rfl, HB.out _ _⟩
 ·have E1 := Lib.hid (emp_false h1)
  go_enter Tryz.func72, Tryz.ntmps72
  go_wp2
  go_ret
  exact ⟨by rw [← HX.out]; unfold willB2; rw [E1.out]; rfl, HB.out _ _⟩
theorem refWillOn (t b : ByteArray) (q : Int) (r : Bool) (ht : t.size ≤ 140737488351232) (w : World) (hT : Wd w) :
  Calls Tryz.prog 72 #[.agg #[.bool true, .string t, .string b, .int .i64 q, .bool r]] w fun e w' => e = .returned (.bool (willB2 true t b q r)) ∧ Below w.heap.size w w' := by
 have hb0 := Lib.hid (balloc w (.cells #[.bool true, .string t, .string b, .int .i64 q, .bool r] 44))
 have HT := Lib.hid (refTextV t ht 1 64 _ (hT.below hb0.out))
 clear hT
 have hlt : w.heap.size < (w.alloc (.cells #[.bool true, .string t, .string b, .int .i64 q, .bool r] 44)).heap.size := lt_alloc _ _
 have HN := Lib.hid (fun w1 => refNumB q 2 w1)
 generalize hX : textOk t 1 64 = X at HT
 generalize hY : inRB q 0 2 = Y at HN
 have HP := Lib.hid (show willB2 true t b q r = (X && (decide ((b.size : Int) ≤ 128) && Y)) by unfold willB2; rw [hX, hY]; rfl)
 generalize willB2 true t b q r = Z at *
 clear hX hY
 go_enter Tryz.func72, Tryz.ntmps72
 go_wp2_with fail
 (with_reducible refine HT.out.mono ?_)
 rintro _ w1 ⟨rfl, hb1⟩
 have HB1 := Lib.hid (hb0.out.trans (hb1.mono (Nat.le_of_lt hlt)))
 have c2 : w1.cell? ⟨w.heap.size, 2, none⟩ = some (.string b) := by rw [cellB hb1 hlt]; simp
 have c3 : w1.cell? ⟨w.heap.size, 3, none⟩ = some (.int .i64 q) := by rw [cellB hb1 hlt]; simp
 clear HT hb1 hb0
 by_cases h1 : (b.size : Int) ≤ 128
 ·rw [decide_eq_true h1] at HP
  cases X
  all_goals
   go_wp2_with (go_at_call 24; (with_reducible refine (HN.out w1).mono ?_); rintro _ w2 ⟨rfl, rfl⟩)
   go_ret
   exact ⟨by rw [HP.out]; rfl, HB1.out⟩
 ·rw [decide_eq_false h1] at HP
  cases X
  all_goals
   go_wp2_with (go_at_call 24; (with_reducible refine (HN.out w1).mono ?_); rintro _ w2 ⟨rfl, rfl⟩)
   go_ret
   exact ⟨by rw [HP.out]; rfl, HB1.out⟩
theorem refWillV (on : Bool) (t b : ByteArray) (q : Int) (r : Bool) (ht : t.size ≤ 140737488351232) (w : World) (hT : Wd w) :
  Calls Tryz.prog 72 #[.agg #[.bool on, .string t, .string b, .int .i64 q, .bool r]] w fun e w' => e = .returned (.bool (willB2 on t b q r)) ∧ Below w.heap.size w w' := by
 cases on
 ·exact refWillOff t b q r w
 ·exact refWillOn t b q r ht w hT
end
section
open Go.RowKit
theorem kind_not {a b : Int} (h : (a == b) = false) : ¬ a = b := by simpa using h
def offL (ops : Array Oper) (n : Nat) : Nat → List Oper → List (Nat × Value) → Option (List (Nat × Value))
 | 0, _, l => some l
 | _ + 1, [], _ => none
 | m + 1, o :: os, l => match o.guard, o.dst with
  | some (j, b), some k => match (ops[j]?).bind (·.dst) with
   | some d => match look l d with
    | some v => bif noB v b && Nat.blt k n then offL ops n m os ((k, undef) :: l) else none
    | none => none
   | none => none
  | _, _ => none
section
variable {P : Program} {ops : Array Oper} {a : Act} {w : World} {Q : Exit → Act → World → Prop} {n : Nat}
theorem Has.offs : ∀ (m : Nat) {L : List Oper} {l l' : List (Nat × Value)} {a : Act}, Has a n l → offL ops n m L l = some l' → (∀ a', Has a' n l' → wpList P ops Q (L.drop m) a' w) → wpList P ops Q L a w
 | 0, L, l, l', a, H, h0, h => by
  simp only [offL, Option.some.injEq] at h0
  subst h0
  exact h a H
 | m + 1, [], l, l', a, H, h0, h => by cases h0
 | m + 1, o :: os, l, l', a, H, h0, h => by
  unfold offL at h0
  split at h0
  ·next j b k hg hd =>
   split at h0
   ·next d hj =>
    split at h0
    ·next v hv =>
     cases hb : (noB v b && Nat.blt k n) with
     | false => rw [hb, cond_false] at h0; cases h0
     | true =>
      rw [hb, cond_true] at h0
      rw [Bool.and_eq_true] at hb
      have hw : Region.wanted o (yielded ops a.tmps) = false := by
       unfold Region.wanted
       rw [hg]
       have := yielded_not hj (H.at_ d v hv) hb.1
       simpa using this
      exact wpList_off hw k hd (Has.offs m (H.put hb.2 undef) h0 h)
    ·cases h0
   ·cases h0
  ·cases h0
end
section
variable {P : Program} {ops : Array Oper} {rest : List Oper} {o : Oper} {a : Act} {w : World} {Q : Exit → Act → World → Prop} {n : Nat} {l : List (Nat × Value)}
theorem Has.lenS (H : Has a n l) (hw : Region.wanted o (yielded ops a.tmps) = true) {d : Nat} {s : Operand} {t : TypeId} {u : ByteArray} (ho : o.op = .call { callee := .builtin .len, args := #[s], argTypes := #[t] }) (hd : o.dst = some d) (hn : Nat.blt d n = true) (hs : evL l s = some (.string u)) (ht : P.underlying t = some .string)
  (h : ∀ a', Has a' n ((d, iz u.size) :: l) → wpList P ops Q rest a' w) : wpList P ops Q (o :: rest) a w :=
 H.go hw hd hn _ (run_lenS ho (H.ev hs) ht) h
end
theorem eql_e (u : ByteArray) (x y : Operand) (w : World) : (do eqGuard .eql 9 x y (.string u) (.string { data := #[] }); binOp .eql 9 (.string u) (.string { data := #[] }) : Sem Value).run Tryz.prog w = .ok (.bool (emp u)) w := by
 have e : (u.toList == (⟨#[]⟩ : ByteArray).toList) = emp u := by
  have h2 : (⟨#[]⟩ : ByteArray).toList = [] := by simp
  by_cases h : u.toList = []
  ·rw [emp_true h, h, h2]; rfl
  ·rw [emp_false h, h2]
   simpa using h
 rw [eql_s, e]
theorem store_will (g : Nat) (L : List Value) (a : Bool) (b c : ByteArray) (d : Int) (e : Bool) (w : World) (hC : Cells w g L) (hl : 8 < L.length) :
  (Instr.storeAt 44 (.pointer (some ⟨g, 4, none⟩)) (.agg #[.bool a, .string b, .string c, iz d, .bool e])).run Tryz.prog w = .ok () (w.setCell ⟨g, 4, none⟩ (.bool a) |>.setCell ⟨g, 5, none⟩ (.string b) |>.setCell ⟨g, 6, none⟩ (.string c) |>.setCell ⟨g, 7, none⟩ (iz d) |>.setCell ⟨g, 8, none⟩ (.bool e)) := by
 have ht : w.there g 4 5 := fun j hj => by
  obtain ⟨c1, c2⟩ := hC (4 + j) _ (List.getElem?_eq_getElem (by omega))
  exact ⟨by rw [c1]; rfl, c2⟩
 exact run_storeAt_mid w g 4 44 #[.bool a, .string b, .string c, iz d, .bool e] ht (by kernel_rfl) (all_oneCell_toArray (by intro v hv; simp only [List.mem_cons, List.not_mem_nil, or_false] at hv; rcases hv with rfl | rfl | rfl | rfl | rfl <;> rfl))
end
section
open Go.RowKit
abbrev pz6 : List Value := [iz 0, iz 0, iz 0, iz 0, iz 0, nilV]
theorem size_pkN : (Tryz.prog.info? 89).map (·.size) = some 6 := by kernel_rfl
theorem zero_pkN (w : World) : (zeroValue 89).run Tryz.prog w = .ok (.agg pz6.toArray) w := by kernel_rfl
theorem and_u8 (u v : Int) (x y : Operand) (w : World) : (do eqGuard .and 5 x y (.int .u8 u) (.int .u8 v); binOp .and 5 (.int .u8 u) (.int .u8 v) : Sem Value).run Tryz.prog w = .ok (.int .u8 (bits .and .u8 u v)) w := by kernel_rfl
theorem and15_q (v : Nat) (h : v < 256) (x y : Operand) (w : World) : (do eqGuard .and 5 x y (.int .u8 (v : Int)) (.int .u8 15); binOp .and 5 (.int .u8 (v : Int)) (.int .u8 15) : Sem Value).run Tryz.prog w = .ok (.int .u8 ((v % 16 : Nat) : Int)) w := by
 have e : bits .and .u8 (v : Int) 15 = ((v % 16 : Nat) : Int) := by
  have := u8_and_nat v 15 h (by omega)
  rw [show (15 : Nat) = 2 ^ 4 - 1 from rfl, Nat.and_two_pow_sub_one_eq_mod] at this
  exact this
 rw [← e]
 exact and_u8 _ _ _ _ _
theorem shr4_q (v : Nat) (_h : v < 256) (x y : Operand) (w : World) : (do eqGuard .shr 5 x y (.int .u8 (v : Int)) (.int .u64 4); binOp .shr 5 (.int .u8 (v : Int)) (.int .u64 4) : Sem Value).run Tryz.prog w = .ok (.int .u8 ((v / 16 : Nat) : Int)) w := by
 simp [go_sem]
theorem conv_uN (v : Nat) (h : v < 256) (w : World) : (convert 5 3 (.int .u8 (v : Int))).run Tryz.prog w = .ok (iz v) w := by
 have : IntKind.i64.wrap (v : Int) = (v : Int) := IntWalk.i64_in _ (by omega)
 simp [go_sem, this]
theorem mul4_i (v : Nat) (h : v < 256) (x y : Operand) (w : World) : (do eqGuard .mul 3 x y (iz 4) (iz v); binOp .mul 3 (iz 4) (iz v) : Sem Value).run Tryz.prog w = .ok (iz ((4 * v : Nat) : Int)) w := by
 have : IntKind.i64.wrap (4 * (v : Int)) = 4 * (v : Int) := IntWalk.i64_in _ (by omega)
 simp [go_sem, this]
theorem neq_u8 (u v : Int) (b : Bool) (h : (u != v) = b) (x y : Operand) (w : World) : (do eqGuard .neq 5 x y (.int .u8 u) (.int .u8 v); binOp .neq 5 (.int .u8 u) (.int .u8 v) : Sem Value).run Tryz.prog w = .ok (.bool b) w := by
 rw [← h]
 simp [go_sem]
theorem andn_i (v : Nat) (h : v < 65536) (x y : Operand) (w : World) : (do eqGuard .andNot 3 x y (iz v) (iz 49152); binOp .andNot 3 (iz v) (iz 49152) : Sem Value).run Tryz.prog w = .ok (iz ((v % 16384 : Nat) : Int)) w := by
 have g : ∀ (u v : Int) (w : World), (do eqGuard .andNot 3 x y (iz u) (iz v); binOp .andNot 3 (iz u) (iz v) : Sem Value).run Tryz.prog w = .ok (iz (bits .andNot .i64 u v)) w := fun _ _ _ => by kernel_rfl
 rw [← andNot_frag v h]
 exact g _ _ _
theorem b8_lt (xs : List UInt8) (k : Nat) : b8 xs k < 256 := UInt8.toNat_lt _
theorem num2_ltp (xs : List UInt8) (k m : Nat) : num2 xs k m < 256 ^ m := Nat.lt_of_lt_of_le (ofB_lt _) (Nat.pow_le_pow_right (by omega) (by rw [List.length_take]; omega))
theorem RB.b8 {w : World} {B b o k : Nat} {xs : List UInt8} (h : RB w B (some ⟨b, o, none⟩) xs) (hk : k < xs.length) : w.cell? ⟨b, o + k, none⟩ = some (.int .u8 ((Go.Proofs.YtlacidnnankjlaaGreatDoor.b8 xs k : Nat) : Int)) := by
 obtain ⟨b', o', x, e, _, hx, hc⟩ := h.get hk
 injection e with e
 injection e with e1 e2
 subst e1 e2
 rw [hc, b8_of hx]
theorem RB.piece {w : World} {B c k m : Nat} {A : Option Addr} {xs : List UInt8} (h : RB w B A xs) (hk : k + m ≤ xs.length) (hc : xs.length ≤ c) : RB w B (if c = k then A else A.map (·.add k)) ((xs.drop k).take m) := by
 have := (h.take (k + m)).cut (k := k) (cap := c) (by rw [List.length_take]; omega) (by rw [List.length_take]; omega)
 rw [List.drop_take, Nat.add_sub_cancel_left] at this
 exact this
theorem getN (xs : List UInt8) (n : Nat) (hl : xs.length = n) (A : Option Addr) (c : Nat) (hnc : n ≤ c) (w : World) (hx : RB w w.heap.size A xs) (k m : Nat) (hkm : k + m ≤ n) (hm : m ≤ 7) (v : Nat) (hv : num2 xs k m = v) :
  Calls Tryz.prog 117 #[.slice (if c = k then A else A.map (·.add k)) m (c - k)] w fun e w' => e = .returned (iz v) ∧ w = w' := by
 subst hv
 exact sumGet ((xs.drop k).take m) m (by rw [List.length_take, List.length_drop]; omega) _ _ w (hx.piece (by omega) (by omega)) hm
theorem ipParseN (xs : List UInt8) (n : Nat) (hl : xs.length = n) (A : Option Addr) (c : Nat) (hnc : n ≤ c) (w : World) (hx : RB w w.heap.size A xs) (hn : n ≤ 140737488351232) :
    Calls Tryz.prog 86 #[.slice A n c] w (PkParsed w (parseOut xs)) := by
  go_enter Tryz.func86, Tryz.ntmps86
  refine Has.start 73 [(0, .slice A n c)] rfl rfl ⟨rfl, trivial⟩ ?_
  intro a0 H0
  refine rl ?_
  refine H0.al (Own.start w) 1 zero_pkN fun a w1 O1 H => nt ?_
  obtain ⟨g, hg⟩ : ∃ g, w.heap.size = g := ⟨_, rfl⟩
  rw [hg] at O1 H
  have bl : ∀ {bs : List (Nat × List Value)} {w'}, Own w g bs w' → Below w.heap.size w w' := fun h => hg ▸ h.bel
  refine wp_scope_one (k := 0) rfl (fun a w' => ∃ er : Int, Has a 73 [(2, pz g), (3, iz er)] ∧ Own w g [(g, pz6)] w' ∧ parseOut xs = (.zero, er)) (fun _ _ => 0) ?_ ?_
  rotate_left
  · clear H H0 O1
    rintro a w3 ⟨er, H, O3, he⟩
    refine rl ?_
    refine H.any (w' := w3) gz rfl rfl (.agg (pz6).toArray) (by intro cs b h; cases h) (by kernel_rfl) (by kernel_rfl) fun a H => ?_
    refine H.ms 1 fun a H => ?_
    refine H.st O3 0 1 (L := pz6) (fun a w4 O4 H => nt (wp_ret ?_)) size_pkN
    repeat (first | (with_reducible refine jump_ret ?_) | (with_reducible refine then_ret ?_))
    refine bodyPost_ret (results_two Tryz.results86 _ _ _ (H.at_ 2 _ rfl) (H.at_ 3 _ rfl) (O4.get 0 rfl) Tryz.underlying89 rfl _ size_pkN rfl) H.df ?_
    rw [he]
    exact ⟨none, 0, rfl, World.ownsRow_nil _ _ _ _, bl O4⟩
  intro hpass
  refine H.rg 2 fun a H => nt ?_
  refine H.rg 1 fun a H => nt ?_
  replace H := H.kp [0, 2, 3]
  obtain ⟨N, hN⟩ : ∃ N, ipN xs = N := ⟨_, rfl⟩
  have hN60 : N ≤ 60 := by rw [← hN]; unfold ipN; omega
  obtain ⟨L, hL⟩ : ∃ L, num2 xs 2 2 = L := ⟨_, rfl⟩
  obtain ⟨S, hS⟩ : ∃ S, Sm.check (xs.take N) = S := ⟨_, rfl⟩
  obtain ⟨F, hF⟩ : ∃ F, num2 xs 6 2 = F := ⟨_, rfl⟩
  have x1 := hx.next (bl O1)
  refine H.rg 1 fun a H => ?_
  refine H.len gz rfl rfl rfl rfl Tryz.underlying31 fun a H => ?_
  by_cases h20 : n < 20
  · refine H.bb 0 rfl rfl rfl rfl rfl rfl (lss_i _ _ true (by rw [decide_eq_true_iff]; omega) _ _ _) rfl fun a H => nt (H.condT rfl (wp_goto ?_))
    repeat (first | (with_reducible refine block_goto ?_) | (with_reducible refine then_goto ?_))
    exact jump_goto ⟨7, H.keep ⟨rfl, rfl, trivial⟩, O1, by unfold parseOut; rw [if_pos (by omega)]⟩
  refine H.bb 0 rfl rfl rfl rfl rfl rfl (lss_i _ _ false (by rw [decide_eq_false_iff_not]; omega) _ _ _) rfl fun a H => nt (H.condF rfl (skip_wp (then_normal ?_)))
  refine H.rg 1 fun a H => nt ?_
  replace H := H.kp [0, 2, 3]
  obtain ⟨b, o, _, hA, hbB, _, _⟩ := x1.get (k := 0) (by omega)
  have c0 := (hA ▸ x1 : RB w1 w1.heap.size (some ⟨b, o, none⟩) xs).b8 (k := 0) (by omega)
  have hix : ∀ k, k < n → ∀ w', (Instr.indexAt 31 (.slice A n c) (iz k)).run Tryz.prog w' = .ok (.pointer (some ⟨b, o + k, none⟩)) w' := fun k hk w' => by rw [hA]; exact index_1 31 Tryz.underlying31 (fun _ => by kernel_rfl) b o n c k hk w'
  have hb0 := b8_lt xs 0
  refine H.rg 1 fun a H => ?_
  refine H.index gz rfl rfl rfl rfl rfl (hix 0 (by omega) _) fun a H => ?_
  refine H.ld 0 (load1_u _ _ _ _ c0) fun a H => ?_
  refine H.bn 0 (and15_q (b8 xs 0) hb0 _ _ _) fun a H => ?_
  refine H.cv 0 (conv_uN (b8 xs 0 % 16) (by omega) _) fun a H => ?_
  refine H.bn 1 (mul4_i (b8 xs 0 % 16) (by omega) _ _ _) fun a H => nt ?_
  rw [show 4 * (b8 xs 0 % 16) = N from hN] at H
  replace H := H.kp [0, 2, 3, 4]
  obtain ⟨z4, hz4⟩ : ∃ z, (((b8 xs 0 / 16 : Nat) : Int) != 4) = z := ⟨_, rfl⟩
  refine H.rg 1 fun a H => ?_
  refine H.index gz rfl rfl rfl rfl rfl (hix 0 (by omega) _) fun a H => ?_
  refine H.ld 0 (load1_u _ _ _ _ c0) fun a H => ?_
  refine H.bn 0 (shr4_q (b8 xs 0) hb0 _ _ _) fun a H => ?_
  refine H.bn 1 (neq_u8 _ _ z4 hz4 _ _ _) fun a H => ?_
  cases z4 with
  | true =>
    refine H.offs 2 rfl fun a H => ?_
    refine H.pick gz rfl rfl rfl rfl rfl fun a H => nt (H.condT rfl (wp_goto ?_))
    have h4 : b8 xs 0 / 16 ≠ 4 := by intro e; rw [e] at hz4; cases hz4
    repeat (first | (with_reducible refine block_goto ?_) | (with_reducible refine then_goto ?_))
    exact jump_goto ⟨1, H.keep ⟨rfl, rfl, trivial⟩, O1, by unfold parseOut; rw [if_neg (by omega), if_pos (.inl h4)]⟩
  | false =>
  have h4 : b8 xs 0 / 16 = 4 := by simpa [← Int.natCast_inj] using hz4
  refine H.go (H.wt rfl rfl rfl) rfl rfl _ (run_move (.inl rfl) (H.ev rfl)) fun a H => ?_
  by_cases hN20 : N < 20
  · refine H.bin (H.wt rfl rfl rfl) rfl rfl rfl rfl rfl (lss_i _ _ true (by rw [decide_eq_true_iff]; omega) _ _ _) fun a H => ?_
    refine H.pick gz rfl rfl rfl rfl rfl fun a H => nt (H.condT rfl (wp_goto ?_))
    repeat (first | (with_reducible refine block_goto ?_) | (with_reducible refine then_goto ?_))
    exact jump_goto ⟨1, H.keep ⟨rfl, rfl, trivial⟩, O1, by unfold parseOut; rw [if_neg (by omega), if_pos (.inr (by omega))]⟩
  refine H.bin (H.wt rfl rfl rfl) rfl rfl rfl rfl rfl (lss_i _ _ false (by rw [decide_eq_false_iff_not]; omega) _ _ _) fun a H => ?_
  refine H.pick gz rfl rfl rfl rfl rfl fun a H => nt (H.condF rfl (skip_wp (then_normal ?_)))
  have hg2 : ¬ (b8 xs 0 / 16 ≠ 4 ∨ ipN xs < 20) := by omega
  refine H.rg 1 fun a H => nt ?_
  replace H := H.kp [0, 2, 3, 4]
  refine H.rg 1 fun a H => ?_
  refine H.len gz rfl rfl rfl rfl Tryz.underlying31 fun a H => ?_
  refine H.ms 1 fun a H => ?_
  by_cases hnN : n < N
  · refine H.bb 0 rfl rfl rfl rfl rfl rfl (lss_i _ _ true (by rw [decide_eq_true_iff]; omega) _ _ _) rfl fun a H => nt (H.condT rfl (wp_goto ?_))
    repeat (first | (with_reducible refine block_goto ?_) | (with_reducible refine then_goto ?_))
    exact jump_goto ⟨7, H.keep ⟨rfl, rfl, trivial⟩, O1, by unfold parseOut; rw [if_neg (by omega), if_neg hg2, if_pos (by omega)]⟩
  refine H.bb 0 rfl rfl rfl rfl rfl rfl (lss_i _ _ false (by rw [decide_eq_false_iff_not]; omega) _ _ _) rfl fun a H => nt (H.condF rfl (skip_wp (then_normal ?_)))
  refine H.rg 1 fun a H => nt ?_
  replace H := H.kp [0, 2, 3, 4]
  refine H.rg 1 fun a H => ?_
  refine H.go gz rfl rfl _ (run_slice rfl (H.ev rfl) (H.ev rfl) (H.ev rfl) (slice_lh A n c 2 4 (by decide) (by omega) hnc _)) fun a H => ?_
  refine H.cq 1 (getN xs n hl A c hnc w1 x1 2 2 (by omega) (by decide) L hL) fun a H => nt ?_
  replace H := H.kp [0, 2, 3, 4, 5]
  refine H.rg 2 fun a H => ?_
  by_cases hLN : L < N
  · refine H.bb 0 rfl rfl rfl rfl rfl rfl (lss_i _ _ true (by rw [decide_eq_true_iff]; omega) _ _ _) rfl fun a H => nt (H.condT rfl (wp_goto ?_))
    repeat (first | (with_reducible refine block_goto ?_) | (with_reducible refine then_goto ?_))
    exact jump_goto ⟨1, H.keep ⟨rfl, rfl, trivial⟩, O1, by unfold parseOut; rw [if_neg (by omega), if_neg hg2, if_neg (by omega), if_pos (by omega)]⟩
  refine H.bb 0 rfl rfl rfl rfl rfl rfl (lss_i _ _ false (by rw [decide_eq_false_iff_not]; omega) _ _ _) rfl fun a H => nt (H.condF rfl (skip_wp (then_normal ?_)))
  refine H.rg 1 fun a H => nt ?_
  replace H := H.kp [0, 2, 3, 4, 5]
  refine H.rg 1 fun a H => ?_
  refine H.len gz rfl rfl rfl rfl Tryz.underlying31 fun a H => ?_
  refine H.ms 1 fun a H => ?_
  by_cases hnL : n < L
  · refine H.bb 0 rfl rfl rfl rfl rfl rfl (lss_i _ _ true (by rw [decide_eq_true_iff]; omega) _ _ _) rfl fun a H => nt (H.condT rfl (wp_goto ?_))
    repeat (first | (with_reducible refine block_goto ?_) | (with_reducible refine then_goto ?_))
    exact jump_goto ⟨7, H.keep ⟨rfl, rfl, trivial⟩, O1, by unfold parseOut; rw [if_neg (by omega), if_neg hg2, if_neg (by omega), if_neg (by omega), if_pos (by omega)]⟩
  refine H.bb 0 rfl rfl rfl rfl rfl rfl (lss_i _ _ false (by rw [decide_eq_false_iff_not]; omega) _ _ _) rfl fun a H => nt (H.condF rfl (skip_wp (then_normal ?_)))
  refine H.rg 1 fun a H => nt ?_
  replace H := H.kp [0, 2, 3, 4, 5]
  refine H.rg 2 fun a H => ?_
  refine H.go gz rfl rfl _ (run_slice_h rfl (H.ev rfl) (H.ev rfl) (slice_h A n c N (by omega) hnc _)) fun a H => ?_
  refine H.cq 0 (hS ▸ sumCheck (xs.take N) N (by rw [List.length_take]; omega) A c w1 (x1.take N) (by omega)) fun a H => ?_
  obtain ⟨zs, hzs⟩ : ∃ z, ((S : Int) != 0) = z := ⟨_, rfl⟩
  refine H.bn 0 (neq_3 _ _ zs hzs _ _ _) fun a H => nt ?_
  cases zs with
  | true =>
    refine H.condT rfl (wp_goto ?_)
    have h8 : S ≠ 0 := by intro e; rw [e] at hzs; cases hzs
    repeat (first | (with_reducible refine block_goto ?_) | (with_reducible refine then_goto ?_))
    exact jump_goto ⟨8, H.keep ⟨rfl, rfl, trivial⟩, O1, by unfold parseOut; rw [if_neg (by omega), if_neg hg2, if_neg (by omega), if_neg (by omega), if_neg (by omega), hN, hS, if_pos h8]⟩
  | false =>
  have h8 : S = 0 := by simpa using hzs
  refine H.condF rfl (skip_wp (then_normal ?_))
  refine H.rg 1 fun a H => nt ?_
  replace H := H.kp [0, 2, 3, 4, 5]
  have hFl : F < 65536 := hF ▸ num2_ltp xs 6 2
  refine H.rg 1 fun a H => ?_
  refine H.go gz rfl rfl _ (run_slice rfl (H.ev rfl) (H.ev rfl) (H.ev rfl) (slice_lh A n c 6 8 (by decide) (by omega) hnc _)) fun a H => ?_
  refine H.cq 0 (getN xs n hl A c hnc w1 x1 6 2 (by omega) (by decide) F hF) fun a H => ?_
  refine H.bn 0 (andn_i F hFl _ _ _) fun a H => ?_
  obtain ⟨zf, hzf⟩ : ∃ z, (((F % 16384 : Nat) : Int) != 0) = z := ⟨_, rfl⟩
  refine H.bn 0 (neq_3 _ _ zf hzf _ _ _) fun a H => nt ?_
  have hrest : parseOut xs = if F % 16384 ≠ 0 then (.zero, 9) else (parsed xs, 0) := by unfold parseOut; rw [if_neg (by omega), if_neg hg2, if_neg (by omega), if_neg (by omega), if_neg (by omega), hN, hS, if_neg (by omega), hF]
  cases zf with
  | true =>
    refine H.condT rfl (wp_goto ?_)
    have h9 : F % 16384 ≠ 0 := by intro e; rw [e] at hzf; cases hzf
    repeat (first | (with_reducible refine block_goto ?_) | (with_reducible refine then_goto ?_))
    exact jump_goto ⟨9, H.keep ⟨rfl, rfl, trivial⟩, O1, by rw [hrest, if_pos h9]⟩
  | false =>
  rw [if_neg (by have : ((F % 16384 : Nat) : Int) = 0 := by simpa using hzf
                 omega)] at hrest
  refine H.condF rfl (skip_wp (then_normal ?_))
  replace H := H.kp [0, 2, 4, 5]
  have hrb : ∀ {bs : List (Nat × List Value)} {w'}, Own w g bs w' → RB w' w'.heap.size (some ⟨b, o, none⟩) xs := fun h => hA ▸ hx.next (bl h)
  have hcl : ((xs.take L).drop N).length = L - N := by rw [List.length_drop, List.length_take]; omega
  refine H.sg (fun w' => Own w g [(g, pz6)] w') O1.drew [0, 2, 4, 5] [ec 0 48 (.slice A n c), ec 1 49 (.slice (if c = 12 then A else A.map (·.add 12)) 4 (c - 12)), ec 2 50 (iz (num2 xs 12 4)), ec 3 51 (.slice A n c), ec 4 52 (.slice (if c = 16 then A else A.map (·.add 16)) 4 (c - 16)), ec 5 53 (iz (num2 xs 16 4)), ec 6 54 (.slice A n c), ec 7 55 (.pointer (some ⟨b, o + 9, none⟩)), ec 8 56 (.int .u8 ((b8 xs 9 : Nat) : Int)), ec 9 57 (iz (b8 xs 9)), ec 10 58 (.slice A n c), ec 11 59 (.pointer (some ⟨b, o + 8, none⟩)), ec 12 60 (.int .u8 ((b8 xs 8 : Nat) : Int)), ec 13 61 (iz (b8 xs 8)), ec 14 62 (.slice A n c), ec 15 63 (.slice (if c = 4 then A else A.map (·.add 4)) 2 (c - 4)), ec 16 64 (iz (num2 xs 4 2)), ec 17 65 (.slice A n c), ec 18 66 (iz N), ec 19 67 (iz L), ec 20 68 (.slice (if c = N then A else A.map (·.add N)) (L - N) (c - N)), ec 24 3 (iz 0)] rfl ?_
  refine St.call 21 ⟨jm, js2 fun _ => slice_lh A n c 12 16 (by omega) (by omega) hnc _, jq fun w' h => getN xs n hl A c hnc w' (hx.next (bl h)) 12 4 (by omega) (by decide) _ rfl, jm, js2 fun _ => slice_lh A n c 16 20 (by omega) (by omega) hnc _, jq fun w' h => getN xs n hl A c hnc w' (hx.next (bl h)) 16 4 (by omega) (by decide) _ rfl, jm, jI rfl rfl rfl rfl rfl rfl (hix 9 (by omega)), jl fun _ h => load1_u _ _ _ _ ((hrb h).b8 (k := 9) (by omega)), jc fun _ => conv_uN (b8 xs 9) (b8_lt xs 9) _, jm, jI rfl rfl rfl rfl rfl rfl (hix 8 (by omega)), jl fun _ h => load1_u _ _ _ _ ((hrb h).b8 (k := 8) (by omega)), jc fun _ => conv_uN (b8 xs 8) (b8_lt xs 8) _, jm, js2 fun _ => slice_lh A n c 4 6 (by omega) (by omega) hnc _, jq fun w' h => getN xs n hl A c hnc w' (hx.next (bl h)) 4 2 (by omega) (by decide) _ rfl, jm, jm, jm, js2 fun _ => slice_lh A n c N L (by omega) (by omega) hnc _, jm, trivial⟩ (fun wy h => cloneE ((xs.take L).drop N) (L - N) hcl _ (c - N) wy (((hx.next (bl h)).take L).cut (k := N) (cap := c) (by rw [List.length_take]; omega) (by rw [List.length_take]; omega)) (by omega)) ?_
  rintro wy _ wz hh ⟨A1, c1, rfl, hO, hb⟩
  have hgy : g < wy.heap.size := hh.lt 0 rfl
  have Oz := hh.call hb
  clear hb
  generalize wy.heap.size = bb at hO hgy
  refine nx (fun w' => Own w g [(g, pz6)] w' ∧ w'.ownsRow bb 5 1 (.slice A1 (L - N) c1) (L - N) (((xs.take L).drop N).map bv)) [ec 22 70 (.agg ([iz (num2 xs 12 4), iz (num2 xs 16 4), iz (b8 xs 9), iz (b8 xs 8), iz (num2 xs 4 2), .slice A1 (L - N) c1] : List Value).toArray)] [] ⟨Oz, hO⟩ ?_
  refine St.sto 23 ⟨ja (fun _ => by kernel_rfl), jm, jI rfl rfl rfl rfl rfl rfl (hix 9 (by omega)), jl fun _ h => load1_u _ _ _ _ ((hrb h.1).b8 (k := 9) (by omega)), jc fun _ => conv_uN (b8 xs 9) (b8_lt xs 9) _, jm, jI rfl rfl rfl rfl rfl rfl (hix 8 (by omega)), jl fun _ h => load1_u _ _ _ _ ((hrb h.1).b8 (k := 8) (by omega)), jc fun _ => conv_uN (b8 xs 8) (b8_lt xs 8) _, jm, trivial⟩ ?_
  rintro a wu H _ ⟨Ou, hOu⟩
  obtain ⟨w', hr, hg3, hs3, hC3⟩ := (Ou.get 0 rfl).sto (L := [iz (num2 xs 12 4), iz (num2 xs 16 4), iz (b8 xs 9), iz (b8 xs 8), iz (num2 xs 4 2), .slice A1 (L - N) c1]) size_pkN rfl rfl rfl
  refine ⟨w', run_store rfl (H.ev rfl) (H.ev rfl) hr, nx0 (fun w' => Own w g [(g, [iz (num2 xs 12 4), iz (num2 xs 16 4), iz (b8 xs 9), iz (b8 xs 8), iz (num2 xs 4 2), .slice A1 (L - N) c1])] w' ∧ w'.ownsRow bb 5 1 (.slice A1 (L - N) c1) (L - N) (((xs.take L).drop N).map bv)) [] [] ⟨Ou.store 0 rfl hg3 hs3 hC3, hOu.kept hg3 (.inr (own_ne hOu (.inl hgy)).symm)⟩ (St.fin ⟨jm, trivial⟩ ?_ (hF := .inl rfl))⟩
  rintro a w3 H _ ⟨O3, hO3⟩
  refine then_normal (wp_ret ?_)
  repeat (first | (with_reducible refine jump_ret ?_) | (with_reducible refine block_ret ?_) | (with_reducible refine then_ret ?_))
  refine bodyPost_ret (results_two Tryz.results86 _ _ _ (H.at_ 2 _ rfl) (H.at_ 3 _ rfl) (O3.get 0 rfl) Tryz.underlying89 rfl _ size_pkN rfl) H.df ?_
  rw [hrest]
  unfold parsed
  rw [hN, hL]
  refine ⟨A1, c1, ?_, ?_, bl O3⟩
  · simp only [hcl]
  · simp only [hcl]; exact own_base hO3 (by omega)
end
section
open Go.RowKit
abbrev sz7 : List Value := [iz 0, iz 0, iz 0, iz 0, iz 0, iz 0, nilV]
theorem size_sgN : (Tryz.prog.info? 36).map (·.size) = some 7 := by kernel_rfl
theorem zero_sgN (w : World) : (zeroValue 36).run Tryz.prog w = .ok (.agg sz7.toArray) w := by kernel_rfl
theorem and63_i (v : Nat) (h : v < 256) (x y : Operand) (w : World) : (do eqGuard .and 3 x y (iz v) (iz 63); binOp .and 3 (iz v) (iz 63) : Sem Value).run Tryz.prog w = .ok (iz ((v % 64 : Nat) : Int)) w := by
 have g : ∀ (u v : Int) (w : World), (do eqGuard .and 3 x y (iz u) (iz v); binOp .and 3 (iz u) (iz v) : Sem Value).run Tryz.prog w = .ok (iz (bits .and .i64 u v)) w := fun _ _ _ => by kernel_rfl
 have e : bits .and .i64 (v : Int) 63 = ((v % 64 : Nat) : Int) := by
  have := i64_and_nat v 63 (by omega) (by omega)
  rw [show (63 : Nat) = 2 ^ 6 - 1 from rfl, Nat.and_two_pow_sub_one_eq_mod] at this
  exact this
 rw [← e]
 exact g _ _ _
theorem segParseN (src dst : Int) (xs : List UInt8) (n : Nat) (hl : xs.length = n) (A : Option Addr) (c : Nat) (hnc : n ≤ c) (w : World) (hx : RB w w.heap.size A xs) (hn : n ≤ 140737488351232) :
  Calls Tryz.prog 87 #[iz src, iz dst, .slice A n c] w (SegParsed w (segOut src dst xs)) := by
 go_enter Tryz.func87, Tryz.ntmps87
 refine Has.start 67 [(0, iz src), (1, iz dst), (2, .slice A n c)] rfl rfl ⟨rfl, rfl, rfl, trivial⟩ ?_
 intro a0 H0
 refine rl ?_
 refine H0.al (Own.start w) 1 zero_sgN fun a w1 O1 H => nt ?_
 obtain ⟨g, hg⟩ : ∃ g, w.heap.size = g := ⟨_, rfl⟩
 rw [hg] at O1 H
 have bl : ∀ {bs : List (Nat × List Value)} {w'}, Own w g bs w' → Below w.heap.size w w' := fun h => hg ▸ h.bel
 refine wp_scope_one (k := 0) rfl (fun a w' => ∃ er : Int, Has a 67 [(6, pz g), (7, iz er)] ∧ Own w g [(g, sz7)] w' ∧ segOut src dst xs = (.zero, er)) (fun _ _ => 0) ?_ ?_
 rotate_left
 ·clear H H0 O1
  rintro a w3 ⟨er, H, O3, he⟩
  refine rl ?_
  refine H.any (w' := w3) gz rfl rfl (.agg sz7.toArray) (by intro cs b h; cases h) (by kernel_rfl) (by kernel_rfl) fun a H => ?_
  refine H.ms 1 fun a H => ?_
  refine H.st O3 0 1 (L := sz7) (fun a w4 O4 H => nt (wp_ret ?_)) size_sgN
  repeat (first | (with_reducible refine jump_ret ?_) | (with_reducible refine then_ret ?_))
  refine bodyPost_ret (results_two Tryz.results87 _ _ _ (H.at_ 6 _ rfl) (H.at_ 7 _ rfl) (O4.get 0 rfl) Tryz.underlying36 rfl _ size_sgN rfl) H.df ?_
  rw [he]
  exact ⟨none, 0, rfl, World.ownsRow_nil _ _ _ _, bl O4⟩
 intro hpass
 obtain ⟨N, hN⟩ : ∃ N, sgN xs = N := ⟨_, rfl⟩
 have hN60 : N ≤ 60 := by have := b8_lt xs 12; rw [← hN]; unfold sgN; omega
 have x1 := hx.next (bl O1)
 refine H.rg 1 fun a H => nt ?_
 refine H.rg 1 fun a H => nt ?_
 replace H := H.kp [0, 1, 2, 6, 7]
 obtain ⟨b1, h1⟩ : ∃ b, wordB src = b := ⟨_, rfl⟩
 obtain ⟨b2, h2⟩ : ∃ b, wordB dst = b := ⟨_, rfl⟩
 refine H.rg 1 fun a H => ?_
 refine H.cq 0 (segIPV src b1 h1 w1) fun a H => ?_
 refine H.un gz rfl rfl rfl rfl (run_not b1 _) fun a H => ?_
 refine H.ms 1 fun a H => ?_
 cases b1 with
 | false =>
  refine H.offs 3 rfl fun a H => ?_
  refine H.pick gz rfl rfl rfl rfl rfl fun a H => nt (H.condT rfl (wp_goto ?_))
  repeat (first | (with_reducible refine block_goto ?_) | (with_reducible refine then_goto ?_))
  exact jump_goto ⟨1, H.keep ⟨rfl, rfl, trivial⟩, O1, by unfold segOut; rw [if_pos (.inl h1)]⟩
 | true =>
 refine H.go (H.wt rfl rfl rfl) rfl rfl _ (run_move (.inl rfl) (H.ev rfl)) fun a H => ?_
 refine H.call (H.wt rfl rfl rfl) rfl rfl rfl rfl (fun _ _ => by kernel_rfl) (quietC (segIPV dst b2 h2 w1)) ?_
 rintro a _ _ ⟨rfl, rfl⟩ H
 refine H.un (H.wt rfl rfl rfl) rfl rfl rfl rfl (run_not b2 _) fun a H => ?_
 refine H.pick gz rfl rfl rfl rfl rfl fun a H => nt ?_
 cases b2 with
 | false =>
  refine H.condT rfl (wp_goto ?_)
  repeat (first | (with_reducible refine block_goto ?_) | (with_reducible refine then_goto ?_))
  exact jump_goto ⟨1, H.keep ⟨rfl, rfl, trivial⟩, O1, by unfold segOut; rw [if_pos (.inr h2)]⟩
 | true =>
 refine H.condF rfl (skip_wp (then_normal ?_))
 obtain ⟨src, rfl⟩ := Int.eq_ofNat_of_zero_le (inR_iff.1 h1).1
 obtain ⟨dst, rfl⟩ := Int.eq_ofNat_of_zero_le (inR_iff.1 h2).1
 have hs := (inR_iff.1 h1).2
 have hd := (inR_iff.1 h2).2
 have h12 : ¬ (wordB (src : Int) = false ∨ wordB (dst : Int) = false) := by rw [h1, h2]; simp
 refine H.rg 1 fun a H => nt ?_
 replace H := H.kp [0, 1, 2, 6, 7]
 refine H.rg 1 fun a H => ?_
 refine H.len gz rfl rfl rfl rfl Tryz.underlying31 fun a H => ?_
 by_cases h20 : n < 20
 ·refine H.bb 0 rfl rfl rfl rfl rfl rfl (lss_i _ _ true (by rw [decide_eq_true_iff]; omega) _ _ _) rfl fun a H => nt (H.condT rfl (wp_goto ?_))
  repeat (first | (with_reducible refine block_goto ?_) | (with_reducible refine then_goto ?_))
  exact jump_goto ⟨7, H.keep ⟨rfl, rfl, trivial⟩, O1, by unfold segOut; rw [if_neg h12, if_pos (by omega)]⟩
 refine H.bb 0 rfl rfl rfl rfl rfl rfl (lss_i _ _ false (by rw [decide_eq_false_iff_not]; omega) _ _ _) rfl fun a H => nt (H.condF rfl (skip_wp (then_normal ?_)))
 refine H.rg 1 fun a H => nt ?_
 replace H := H.kp [0, 1, 2, 6, 7]
 obtain ⟨b, o, _, hA, hbB, _, _⟩ := x1.get (k := 0) (by omega)
 have hrb : ∀ {bs : List (Nat × List Value)} {w'}, Own w g bs w' → RB w' w'.heap.size (some ⟨b, o, none⟩) xs := fun h => hA ▸ hx.next (bl h)
 have hix : ∀ k, k < n → ∀ w', (Instr.indexAt 31 (.slice A n c) (iz k)).run Tryz.prog w' = .ok (.pointer (some ⟨b, o + k, none⟩)) w' := fun k hk w' => by rw [hA]; exact index_1 31 Tryz.underlying31 (fun _ => by kernel_rfl) b o n c k hk w'
 have hb0 := b8_lt xs 12
 refine H.rg 1 fun a H => ?_
 refine H.index gz rfl rfl rfl rfl rfl (hix 12 (by omega) _) fun a H => ?_
 refine H.ld 0 (load1_u _ _ _ _ ((hrb O1).b8 (k := 12) (by omega))) fun a H => ?_
 refine H.bn 0 (shr4_q (b8 xs 12) hb0 _ _ _) fun a H => ?_
 refine H.cv 0 (conv_uN (b8 xs 12 / 16) (by omega) _) fun a H => ?_
 refine H.bn 1 (mul4_i (b8 xs 12 / 16) (by omega) _ _ _) fun a H => nt ?_
 rw [show 4 * (b8 xs 12 / 16) = N from hN] at H
 replace H := H.kp [0, 1, 2, 6, 7, 8]
 refine H.rg 1 fun a H => ?_
 by_cases hN20 : N < 20
 ·refine H.bb 0 rfl rfl rfl rfl rfl rfl (lss_i _ _ true (by rw [decide_eq_true_iff]; omega) _ _ _) rfl fun a H => nt (H.condT rfl (wp_goto ?_))
  repeat (first | (with_reducible refine block_goto ?_) | (with_reducible refine then_goto ?_))
  exact jump_goto ⟨1, H.keep ⟨rfl, rfl, trivial⟩, O1, by unfold segOut; rw [if_neg h12, if_neg (by omega), if_pos (by omega)]⟩
 refine H.bb 0 rfl rfl rfl rfl rfl rfl (lss_i _ _ false (by rw [decide_eq_false_iff_not]; omega) _ _ _) rfl fun a H => nt (H.condF rfl (skip_wp (then_normal ?_)))
 refine H.rg 1 fun a H => nt ?_
 replace H := H.kp [0, 1, 2, 6, 7, 8]
 refine H.rg 1 fun a H => ?_
 refine H.len gz rfl rfl rfl rfl Tryz.underlying31 fun a H => ?_
 refine H.ms 1 fun a H => ?_
 by_cases hnN : n < N
 ·refine H.bb 0 rfl rfl rfl rfl rfl rfl (lss_i _ _ true (by rw [decide_eq_true_iff]; omega) _ _ _) rfl fun a H => nt (H.condT rfl (wp_goto ?_))
  repeat (first | (with_reducible refine block_goto ?_) | (with_reducible refine then_goto ?_))
  exact jump_goto ⟨7, H.keep ⟨rfl, rfl, trivial⟩, O1, by unfold segOut; rw [if_neg h12, if_neg (by omega), if_neg (by omega), if_pos (by omega)]⟩
 refine H.bb 0 rfl rfl rfl rfl rfl rfl (lss_i _ _ false (by rw [decide_eq_false_iff_not]; omega) _ _ _) rfl fun a H => nt (H.condF rfl (skip_wp (then_normal ?_)))
 refine H.rg 1 fun a H => nt ?_
 replace H := H.kp [0, 1, 2, 6, 7, 8]
 refine H.rg 1 fun a H => ?_
 refine H.len gz rfl rfl rfl rfl Tryz.underlying31 fun a H => ?_
 by_cases hbig : 1480 < n
 ·refine H.bb 0 rfl rfl rfl rfl rfl rfl (gtr_i _ _ true (by rw [decide_eq_true_iff]; omega) _ _ _) rfl fun a H => nt (H.condT rfl (wp_goto ?_))
  repeat (first | (with_reducible refine block_goto ?_) | (with_reducible refine then_goto ?_))
  exact jump_goto ⟨2, H.keep ⟨rfl, rfl, trivial⟩, O1, by unfold segOut; rw [if_neg h12, if_neg (by omega), if_neg (by omega), if_neg (by omega), if_pos (by omega)]⟩
 refine H.bb 0 rfl rfl rfl rfl rfl rfl (gtr_i _ _ false (by rw [decide_eq_false_iff_not]; omega) _ _ _) rfl fun a H => nt (H.condF rfl (skip_wp (then_normal ?_)))
 refine H.rg 1 fun a H => nt ?_
 replace H := H.kp [0, 1, 2, 6, 7, 8]
 obtain ⟨S, hS⟩ : ∃ S, segSum src dst xs = S := ⟨_, rfl⟩
 refine H.rg 3 fun a H => ?_
 refine H.cl (belowC (hS ▸ segCheck src dst (by omega) (by omega) xs n hl A c w1 x1 (by omega))) ?_
 rintro a _ w2 ⟨rfl, hb2⟩ H
 have O2 := O1.call hb2
 have hrest : segOut src dst xs = if S ≠ 0 then (.zero, 8) else (sgParsed xs, 0) := by unfold segOut; rw [if_neg h12, if_neg (by omega), if_neg (by omega), if_neg (by omega), if_neg (by omega), Int.toNat_natCast, Int.toNat_natCast, hS]
 obtain ⟨zs, hzs⟩ : ∃ z, ((S : Int) != 0) = z := ⟨_, rfl⟩
 refine H.bn 0 (neq_3 _ _ zs hzs _ _ _) fun a H => nt ?_
 cases zs with
 | true =>
  refine H.condT rfl (wp_goto ?_)
  have h8 : S ≠ 0 := by intro e; rw [e] at hzs; cases hzs
  repeat (first | (with_reducible refine block_goto ?_) | (with_reducible refine then_goto ?_))
  exact jump_goto ⟨8, H.keep ⟨rfl, rfl, trivial⟩, O2, by rw [hrest, if_pos h8]⟩
 | false =>
 rw [if_neg (by simpa using hzs)] at hrest
 refine H.condF rfl (skip_wp (then_normal ?_))
 replace H := H.kp [2, 6, 8]
 have hcl : (xs.drop N).length = n - N := by rw [List.length_drop]; omega
 refine H.sg (fun w' => Own w g [(g, sz7)] w') O2.drew [2, 6, 8] [ec 0 40 (.slice A n c), ec 1 41 (.slice A 2 c), ec 2 42 (iz (num2 xs 0 2)), ec 3 43 (.slice A n c), ec 4 44 (.slice (if c = 2 then A else A.map (·.add 2)) 2 (c - 2)), ec 5 45 (iz (num2 xs 2 2)), ec 6 46 (.slice A n c), ec 7 47 (.slice (if c = 4 then A else A.map (·.add 4)) 4 (c - 4)), ec 8 48 (iz (num2 xs 4 4)), ec 9 49 (.slice A n c), ec 10 50 (.slice (if c = 8 then A else A.map (·.add 8)) 4 (c - 8)), ec 11 51 (iz (num2 xs 8 4)), ec 12 52 (.slice A n c), ec 13 53 (.pointer (some ⟨b, o + 13, none⟩)), ec 14 54 (.int .u8 ((b8 xs 13 : Nat) : Int)), ec 15 55 (iz (b8 xs 13)), ec 16 56 (iz ((b8 xs 13 % 64 : Nat) : Int)), ec 17 57 (.slice A n c), ec 18 58 (.slice (if c = 14 then A else A.map (·.add 14)) 2 (c - 14)), ec 19 59 (iz (num2 xs 14 2)), ec 20 60 (.slice A n c), ec 21 61 (iz N), ec 22 62 (.slice (if c = N then A else A.map (·.add N)) (n - N) (c - N)), ec 26 7 (iz 0)] rfl ?_
 refine St.call 23 ⟨jm, jh fun _ => slice_h A n c 2 (by omega) hnc _, jq fun w' h => sumGet (xs.take 2) 2 (by rw [List.length_take]; omega) A c w' ((hx.next (bl h)).take 2) (by decide), jm, js2 fun _ => slice_lh A n c 2 4 (by omega) (by omega) hnc _, jq fun w' h => getN xs n hl A c hnc w' (hx.next (bl h)) 2 2 (by omega) (by decide) _ rfl, jm, js2 fun _ => slice_lh A n c 4 8 (by omega) (by omega) hnc _, jq fun w' h => getN xs n hl A c hnc w' (hx.next (bl h)) 4 4 (by omega) (by decide) _ rfl, jm, js2 fun _ => slice_lh A n c 8 12 (by omega) (by omega) hnc _, jq fun w' h => getN xs n hl A c hnc w' (hx.next (bl h)) 8 4 (by omega) (by decide) _ rfl, jm, jI rfl rfl rfl rfl rfl rfl (hix 13 (by omega)), jl fun _ h => load1_u _ _ _ _ ((hrb h).b8 (k := 13) (by omega)), jc fun _ => conv_uN (b8 xs 13) (b8_lt xs 13) _, jb fun _ => and63_i (b8 xs 13) (b8_lt xs 13) _ _ _, jm, js2 fun _ => slice_lh A n c 14 16 (by omega) (by omega) hnc _, jq fun w' h => getN xs n hl A c hnc w' (hx.next (bl h)) 14 2 (by omega) (by decide) _ rfl, jm, jm, js1 fun _ => slice_lo A n c N (by omega) hnc _, jm, trivial⟩ (fun wy h => cloneE (xs.drop N) (n - N) hcl _ (c - N) wy ((hx.next (bl h)).cut (k := N) (cap := c) (by omega) (by omega)) (by omega)) ?_
 rintro wy _ wz hh ⟨A1, c1, rfl, hO, hb⟩
 have hgy : g < wy.heap.size := hh.lt 0 rfl
 have Oz := hh.call hb
 clear hb
 generalize wy.heap.size = bb at hO hgy
 refine nx (fun w' => Own w g [(g, sz7)] w' ∧ w'.ownsRow bb 5 1 (.slice A1 (n - N) c1) (n - N) ((xs.drop N).map bv)) [ec 24 64 (.agg ([iz (num2 xs 0 2), iz (num2 xs 2 2), iz (num2 xs 4 4), iz (num2 xs 8 4), iz ((b8 xs 13 % 64 : Nat) : Int), iz (num2 xs 14 2), .slice A1 (n - N) c1] : List Value).toArray)] [] ⟨Oz, hO⟩ ?_
 refine St.sto 25 ⟨ja (fun _ => by kernel_rfl), jm, jI rfl rfl rfl rfl rfl rfl (hix 13 (by omega)), jl fun _ h => load1_u _ _ _ _ ((hrb h.1).b8 (k := 13) (by omega)), jc fun _ => conv_uN (b8 xs 13) (b8_lt xs 13) _, jb fun _ => and63_i (b8 xs 13) (b8_lt xs 13) _ _ _, jm, trivial⟩ ?_
 rintro a wu H _ ⟨Ou, hOu⟩
 obtain ⟨w', hr, hg3, hs3, hC3⟩ := (Ou.get 0 rfl).sto (L := [iz (num2 xs 0 2), iz (num2 xs 2 2), iz (num2 xs 4 4), iz (num2 xs 8 4), iz ((b8 xs 13 % 64 : Nat) : Int), iz (num2 xs 14 2), .slice A1 (n - N) c1]) size_sgN rfl rfl rfl
 refine ⟨w', run_store rfl (H.ev rfl) (H.ev rfl) hr, nx0 (fun w' => Own w g [(g, [iz (num2 xs 0 2), iz (num2 xs 2 2), iz (num2 xs 4 4), iz (num2 xs 8 4), iz ((b8 xs 13 % 64 : Nat) : Int), iz (num2 xs 14 2), .slice A1 (n - N) c1])] w' ∧ w'.ownsRow bb 5 1 (.slice A1 (n - N) c1) (n - N) ((xs.drop N).map bv)) [] [] ⟨Ou.store 0 rfl hg3 hs3 hC3, hOu.kept hg3 (.inr (own_ne hOu (.inl hgy)).symm)⟩ (St.fin ⟨jm, trivial⟩ ?_ (hF := .inl rfl))⟩
 rintro a w3 H _ ⟨O3, hO3⟩
 refine then_normal (wp_ret ?_)
 repeat (first | (with_reducible refine jump_ret ?_) | (with_reducible refine block_ret ?_) | (with_reducible refine then_ret ?_))
 refine bodyPost_ret (results_two Tryz.results87 _ _ _ (H.at_ 6 _ rfl) (H.at_ 7 _ rfl) (O3.get 0 rfl) Tryz.underlying36 rfl _ size_sgN rfl) H.df ?_
 rw [hrest]
 unfold sgParsed
 rw [hN]
 refine ⟨A1, c1, ?_, ?_, bl O3⟩
 ·simp only [hcl]
 ·simp only [hcl]; exact own_base hO3 (by omega)
end
end Go.Proofs.YtlacidnnankjlaaGreatDoor
