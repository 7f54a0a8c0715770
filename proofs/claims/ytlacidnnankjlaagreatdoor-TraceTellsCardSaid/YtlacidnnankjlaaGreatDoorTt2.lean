/-
  Texts of the claim: InvT Tab LoopW Join GMore Ether Span SpanM ReasmA ReasmB ReasmC ReasmD ReasmE ReasmF ReasmG ReasmP EtherP Shelf PackW PackT Plain TextR TextP MqDef Strs MqRead RdW RdP RdR.
-/
import Derived.Lib.MinMax
import Derived.WalkLawsBesides
import Derived.Shelf.Small.Utf8
import Derived.Shelf.Small.Strs
import Derived.Shelf.Strings.Search1
import Derived.Shelf.Strings.Search2
import Derived.Shelf.Strings.Search3
import Derived.Shelf.LaysM
import Derived.Shelf.Strings.Shaped
import Derived.Shelf.Strings.Runes
import Derived.Shelf.Strings.IndexAny
import Derived.Shelf.Strings.AsciiSet
import Derived.Shelf.Strings.IndexAnyAll
import Derived.Shelf.Unicode.ValidAny
import Derived.Test.YtlacidnnankjlaaGreatDoorProg
import Derived.Lib.AppendStr
import Derived.Lib.ValidU
import Derived.Laws.RangeAny
import Derived.Lib.OthersKept
import Derived.Laws.Runes
import Derived.Deep.LoopGhost
import Derived.Deep.QuietTactic
import Derived.BigQuiet
import Derived.OwnWalk
import Derived.RegionTactic
import Derived.BigRegion
import Derived.Laws.IdiomStrings
import Derived.Lib.BufferRead
import Derived.Test.YtlacidnnankjlaaGreatDoorTt1
namespace Go.Proofs.YtlacidnnankjlaaGreatDoor
set_option maxRecDepth 100000
set_option maxHeartbeats 25600000
section
open Go.RowKit
def memN : List Nat → Nat → Bool
 | [], _ => false
 | x :: l, k => bif Nat.beq x k then true else memN l k
theorem memN_ok {k : Nat} : ∀ {l : List Nat}, memN l k = true → k ∈ l
 | x :: l, h => by
  unfold memN at h
  cases hb : Nat.beq x k with
  | true => rw [Nat.eq_of_beq_eq_true hb]; exact List.mem_cons_self
  | false => rw [hb, cond_false] at h; exact List.mem_cons_of_mem _ (memN_ok h)
theorem memN_of {k : Nat} : ∀ {l : List Nat}, k ∈ l → memN l k = true
 | x :: l, h => by
  unfold memN
  rcases List.mem_cons.1 h with rfl | h
  ·rw [Nat.beq_refl, cond_true]
  ·cases Nat.beq x k with
   | true => rfl
   | false => exact memN_of h
def ons : List Edge → List Nat → List Nat
 | [], S => S
 | e :: L, S => bif Region.binds .any e then e.on :: ons L S else ons L S
def ancGo (ops : Array Oper) : Nat → List Nat → List Nat
 | 0, S => S
 | i + 1, S => ancGo ops i (bif memN S i then ons (afts ops i) S else S)
def doneN (ops : Array Oper) (h : Nat) (done : List Nat) : List Nat := ancGo ops (h + 1) (h :: done)
theorem ons_ok {listed : Array Bool} : ∀ {L : List Edge} {S : List Nat}, (∀ e ∈ L, Region.binds .any e = true → listed.getD e.on false = true) → (∀ j ∈ S, listed.getD j false = true) → ∀ j ∈ ons L S, listed.getD j false = true
 | [], S, _, hS, j, hj => hS j hj
 | e :: L, S, hL, hS, j, hj => by
  have ih := ons_ok (L := L) (S := S) (fun e' he => hL e' (List.mem_cons_of_mem _ he)) hS
  unfold ons at hj
  cases hb : Region.binds .any e with
  | true =>
   rw [hb, cond_true] at hj
   rcases List.mem_cons.1 hj with rfl | hj
   ·exact hL e List.mem_cons_self hb
   ·exact ih j hj
  | false => rw [hb, cond_false] at hj; exact ih j hj
theorem anc_ok {ops : Array Oper} {listed : Array Bool} (hc : Closed .any ops listed) : ∀ (i : Nat) {S : List Nat}, (∀ j ∈ S, listed.getD j false = true) → ∀ j ∈ ancGo ops i S, listed.getD j false = true
 | 0, _, hS, j, hj => hS j hj
 | i + 1, S, hS, j, hj => by
  unfold ancGo at hj
  refine anc_ok hc i ?_ j hj
  cases hb : memN S i with
  | false => rw [cond_false]; exact hS
  | true =>
   rw [cond_true]
   have hi := hS i (memN_ok hb)
   refine ons_ok ?_ hS
   intro e he hbd
   unfold afts at he
   split at he
   ·next o ho => exact hc i o ho hi e (by simpa using he) hbd
   ·cases he
theorem anc_sub {ops : Array Oper} : ∀ (i : Nat) {S : List Nat}, ∀ j ∈ S, j ∈ ancGo ops i S
 | 0, _, j, hj => hj
 | i + 1, S, j, hj => by
  unfold ancGo
  refine anc_sub i j ?_
  cases memN S i with
  | false => exact hj
  | true =>
   rw [cond_true]
   generalize afts ops i = L
   induction L with
   | nil => exact hj
   | cons e L ih =>
    unfold ons
    cases Region.binds .any e with
    | true => exact List.mem_cons_of_mem _ ih
    | false => exact ih
def dropE (drop : List Nat) : List EntC → List EntC
 | [] => []
 | ⟨k, s, ks, c, q, m⟩ :: ts => bif memN drop k then dropE drop ts else ⟨k, s, ks, c, q, m⟩ :: dropE drop ts
theorem dropE_ok {drop : List Nat} : ∀ {es : List EntC} {t : EntC}, t ∈ dropE drop es → t ∈ es ∧ memN drop t.op = false
 | u :: us, t, h => by
  unfold dropE at h
  cases hb : memN drop u.op with
  | true => rw [hb, cond_true] at h; exact ⟨List.mem_cons_of_mem _ (dropE_ok h).1, (dropE_ok h).2⟩
  | false =>
   rw [hb, cond_false] at h
   rcases List.mem_cons.1 h with rfl | h
   ·exact ⟨List.mem_cons_self, hb⟩
   ·exact ⟨List.mem_cons_of_mem _ (dropE_ok h).1, (dropE_ok h).2⟩
theorem dropE_in {drop : List Nat} : ∀ {es : List EntC} {t : EntC}, t ∈ es → memN drop t.op = true ∨ t ∈ dropE drop es
 | u :: us, t, h => by
  unfold dropE
  rcases List.mem_cons.1 h with rfl | h
  ·cases hb : memN drop t.op with
   | true => exact .inl rfl
   | false => rw [cond_false]; exact .inr List.mem_cons_self
  ·rcases dropE_in (drop := drop) h with h | h
   ·exact .inl h
   ·cases hb : memN drop u.op with
    | true => rw [cond_true]; exact .inr h
    | false => rw [cond_false]; exact .inr (List.mem_cons_of_mem _ h)
def Keeps (w w' : World) : List EntC → Prop
 | [] => True
 | ⟨_, _, _, c, q, _⟩ :: ts => match c with
  | some _ => Keeps w w' ts
  | none => (∀ u, q u w → q u w') ∧ Keeps w w' ts
theorem Keeps.get {w w' : World} : ∀ {es : List EntC}, Keeps w w' es → ∀ t ∈ es, ∀ u, t.e.p u w → t.e.p u w'
 | t :: ts, h, u, hu, v, hv => by
  unfold Keeps at h
  rcases List.mem_cons.1 hu with rfl | hu
  ·cases hc : u.c with
   | some x => simp only [EntC.e, hc] at hv ⊢; exact hv
   | none =>
    rw [hc] at h
    simp only [EntC.e, hc] at hv ⊢
    exact h.1 v hv
  ·split at h
   ·exact Keeps.get h u hu v hv
   ·exact Keeps.get h.2 u hu v hv
theorem StabAll.keeps {w w' : World} (hb : Below w.heap.size w w') : ∀ {es : List EntC}, StabAll es → Keeps w w' es
 | [], _ => trivial
 | t :: ts, h => by
  unfold StabAll at h
  unfold Keeps
  cases hc : t.c with
  | some v => rw [hc] at h; exact StabAll.keeps hb h
  | none =>
   rw [hc] at h
   exact ⟨fun u hu => h.1 u w w' hb hu, StabAll.keeps hb h.2⟩
theorem run_app {P : Program} {o : Oper} {a : Act} {w : World} {s x : Operand} {t : TypeId} (ho : o.op = .call { callee := .builtin .append, args := #[s, x], argTypes := #[t, t] }) {base : Nat} {e : TypeId} {z : Value} {size bytes : Nat} (ht : P.underlying t = some (.slice e)) (hi : (P.info? e).map (fun i => (i.zero, i.size, i.bytes)) = some (some z, size, bytes)) (hzs : z.cells.size = size) (hsz : 0 < size)
  {v : Value} {n : Nat} {xs : List Value} (hs : a.eval s = v) (hown : w.ownsRow base e size v n xs) {A : Option Addr} {m c : Nat} {ys : List Value} (hx : a.eval x = .slice A m c) (hr : Reads w w.heap.size size A m ys) (h1 : ∀ u ∈ ys, u.oneCell' = true) (hn : n + m ≤ maxLen) (hb : (n + m) * bytes ≤ 140737488355328) (hbase : base ≤ w.heap.size) :
  ∃ A' c' w', (execOp a.eval o).run P w = .ok (.value (.slice A' (n + m) c')) w' ∧ w'.ownsRow base e size (.slice A' (n + m) c') (n + m) (xs ++ ys) ∧ w.grownBy w' v.ownBlock := by
 obtain ⟨A', c', w', hrun, h2, h3⟩ := run_append_read (P := P) w base t o.type e z size bytes ht hi hzs hsz v n xs hown w.heap.size A m c ys hr h1 hn hb hbase
 refine ⟨A', c', w', ?_, h2, h3⟩
 unfold execOp
 simp only [ho, resolve, invoke, builtin, Sem.run_bind, Sem.run_pure, Result.andThen_ok, List.map_toArray, List.map_cons, List.map_nil, hs, hx, hrun]
section
variable {ops : Array Oper} {Q : Exit → Act → World → Prop} {n : Nat} {l fixed : List (Nat × Value)} {F : World → Prop} {es : List EntC} {done : List Nat}
def LightAll (ops : Array Oper) (Q : Exit → Act → World → Prop) (n : Nat) (fixed : List (Nat × Value)) (F : World → Prop) (es : List EntC) (done : List Nat) : List EntC → Prop
 | [] => True
 | ⟨k, s, ks, c, q, m⟩ :: ts => bif memN done k then LightAll ops Q n fixed F es done ts else match c, m with
  | some v, false => PureE ops Q n (fixed ++ knownE (afts ops k) es) F k s v ∧ LightAll ops Q n fixed F es done ts
  | _, _ => HeavyE ops Q n fixed F es ⟨k, s, ks, c, q, m⟩ ∧ LightAll ops Q n fixed F es done ts
def St (ops : Array Oper) (Q : Exit → Act → World → Prop) (n : Nat) (fixed : List (Nat × Value)) (es : List EntC) (F : World → Prop) (done : List Nat) : Prop :=
 ∀ (fuel : Nat) (listed : Array Bool) (a : Act) (w : World), listed.size = ops.size → listed.toList.count false ≤ fuel → Closed .any ops listed → (∀ j, listed.getD j false = true → j ∈ done ∨ ∃ t ∈ es, t.op = j) → (∀ j ∈ done, listed.getD j false = true) → InvB n fixed (es.map EntC.e) F listed a w →
  wpAny Tryz.prog .any ops Q fuel listed a w
def stB (ops : Array Oper) (n : Nat) (fixed : List (Nat × Value)) (es : List EntC) (done : List Nat) (h : Nat) : Bool :=
 fitsB n fixed (es.map EntC.e) && (es.all (fun t => t.kill.isEmpty && Nat.blt t.op ops.size) && (!memN done h && (es.all (fun t => t.op != h) && (List.range ops.size).all (fun k => memN done k || (es.any (fun t => t.op == k) || (Nat.beq k h || (afts ops k).any (fun e => Region.binds .any e && (!memN done e.on && es.all (fun t => t.op != e.on)))))))))
theorem light_at : ∀ {ts : List EntC}, LightAll ops Q n fixed F es done ts → ∀ t ∈ ts, t.op ∉ done → (∃ v, t.c = some v ∧ t.arm = false ∧ PureE ops Q n (fixed ++ knownE (afts ops t.op) es) F t.op t.slot v) ∨ (plainB t = false ∧ HeavyE ops Q n fixed F es t)
 | u :: us, h, t, ht, hd => by
  unfold LightAll at h
  rcases List.mem_cons.1 ht with rfl | ht
  ·have hm : memN done t.op = false := by
    cases hb : memN done t.op with
    | false => rfl
    | true => exact absurd (memN_ok hb) hd
   rw [hm, cond_false] at h
   split at h
   ·next h1 h2 => exact .inl ⟨_, h1, h2, h.1⟩
   ·next h1 =>
    refine .inr ⟨?_, h.1⟩
    unfold plainB
    cases hc : t.c with
    | none => rfl
    | some v =>
     cases hm : t.arm with
     | true => rfl
     | false => exact (h1 v hc hm).elim
  ·cases hb : memN done u.op with
   | true => rw [hb, cond_true] at h; exact light_at h t ht hd
   | false =>
    rw [hb, cond_false] at h
    split at h
    ·exact light_at h.2 t ht hd
    ·exact light_at h.2 t ht hd
theorem not_ran {listed : Array Bool} {j : Nat} (h : ¬ listed.getD j false = true) : listed.getD j false = false := by
 cases hb : listed.getD j false with
 | false => rfl
 | true => exact absurd hb h
theorem st_light (hfit : fitsB n fixed (es.map EntC.e) = true) (hkill : es.all (fun t => t.kill.isEmpty) = true) (hN : ops.size ≤ 1000) (hF : es.all plainB = true ∨ ∀ w w', F w → Below w.heap.size w w' → F w') (hstab : StabAll es) (hl : LightAll ops Q n fixed F es done es) {fuel : Nat} {listed : Array Bool} {a : Act} {w : World} {i : Nat} {o : Oper}
  (ih : ∀ (listed : Array Bool) (a : Act) (w : World), listed.size = ops.size → listed.toList.count false ≤ fuel → Closed .any ops listed → (∀ j, listed.getD j false = true → j ∈ done ∨ ∃ t ∈ es, t.op = j) → (∀ j ∈ done, listed.getD j false = true) → InvB n fixed (es.map EntC.e) F listed a w → wpAny Tryz.prog .any ops Q fuel listed a w)
  (hs : listed.size = ops.size) (hc : listed.toList.count false ≤ fuel + 1) (hcl : Closed .any ops listed) (hsub : ∀ j, listed.getD j false = true → j ∈ done ∨ ∃ t ∈ es, t.op = j) (hdn : ∀ j ∈ done, listed.getD j false = true) (hI : InvB n fixed (es.map EntC.e) F listed a w)
  (h0 : listed.getD i false = false) (ho : ops[i]? = some o) (hd : ∀ e ∈ o.after, Region.binds .any e = true → listed.getD e.on false = true) (hm : ∃ t ∈ es, t.op = i) : wpOp Tryz.prog ops Q i (fun a' w' => wpAny Tryz.prog .any ops Q fuel (listed.setIfInBounds i true) a' w') a w := by
 obtain ⟨t, ht, rfl⟩ := hm
 have hi : t.op < listed.size := by rw [hs]; exact (Array.getElem?_eq_some_iff.1 ho).1
 have h1 : listed.toList[t.op]? = some false := by
  simp only [Array.getD_eq_getD_getElem?, Array.getElem?_eq_getElem hi, Option.getD_some] at h0
  simp [hi, h0]
 have hcs := count_set _ _ h1
 have hnd : t.op ∉ done := fun h => by rw [hdn _ h] at h0; cases h0
 have hkk : afts ops t.op = o.after.toList := by unfold afts; rw [ho]
 have HH := Has.of hI.sz hI.df (AllEv.app hI.fx (known_ok hI hd fun _ h => h))
 have hsl : t.e.slot = t.slot := by unfold EntC.e; split <;> rfl
 have next : ∀ v w', t.e.p v w' → F w' → AllSt t.op listed w w' (es.map EntC.e) → wpAny Tryz.prog .any ops Q fuel (listed.setIfInBounds t.op true) (a.put (some t.slot) v) w' := by
  intro v w' hp hFw hst
  have hK := hI.put (Wp' := F) hfit t.e (List.mem_map_of_mem ht) (by rw [EntC.e_op]; exact hi) (by rw [hs]; exact hN) v hp hFw (by rw [EntC.e_op]; exact hst)
  rw [EntC.e_op, hsl] at hK
  refine ih _ _ w' (by simpa using hs) ?_ ?_ ?_ (fun j hj => ran_mono (hdn j hj)) hK
  ·rw [Array.toList_setIfInBounds]; omega
  ·intro j oj hoj hj e he hb
   rcases getD_set hj with e2 | hj
   ·subst e2
    rw [ho] at hoj
    injection hoj with hoj
    subst hoj
    exact ran_mono (hd e he hb)
   ·exact ran_mono (hcl j oj hoj hj e he hb)
  ·intro j hj
   rcases getD_set hj with e2 | hj
   ·exact .inr ⟨t, ht, e2.symm⟩
   ·exact hsub j hj
 rcases light_at hl t ht hnd with ⟨v, hv, _, hp⟩ | ⟨hpl, hp⟩
 ·rw [hkk] at hp
  exact hp _ a w HH hI.wp (next v w (by simp only [EntC.e, hv]) hI.wp AllSt.same)
 ·unfold HeavyE at hp
  rw [hkk] at hp
  have hF : ∀ w w', F w → Below w.heap.size w w' → F w' := by
   rcases hF with h | h
   ·rw [List.all_eq_true.1 h t ht] at hpl; cases hpl
   ·exact h
  exact hp _ a w HH (knownR_ok hI hkill hd fun _ h => h) hI.wp fun v w' hpv hb => next v w' hpv (hF _ _ hI.wp hb) (StabAll.all hb hstab).all
def Nx (ops : Array Oper) (Q : Exit → Act → World → Prop) (n : Nat) (fixed : List (Nat × Value)) (es : List EntC) (done : List Nat) (h s : Nat) (v : Value) (w w' : World) : Prop :=
 ∃ (hE : EntC) (new : List EntC) (drop : List Nat) (F' : World → Prop) (fixed' : List (Nat × Value)), (∀ a, AllEv a fixed → AllEv a fixed') ∧ (hE.op = h ∧ hE.slot = s ∧ hE.e.p v w' ∧ hE.kill = []) ∧ F' w' ∧ Keeps w w' (dropE drop es) ∧ (fitsB n fixed' ((hE :: (new ++ dropE drop es)).map EntC.e) && (drop.all (fun k => memN (doneN ops h done) k) && new.all (fun t => Nat.blt t.op ops.size && (!memN done t.op && (es.all (fun u => u.op != t.op) && t.op != h))))) = true ∧
  St ops Q n fixed' (hE :: (new ++ dropE drop es)) F' (doneN ops h done)
def Pins (a : Act) (drop : List Nat) : List EntC → Prop
 | [] => True
 | ⟨k, s, ks, c, _, _⟩ :: ts => (ks = [] ∧ memN drop k = true ∧ ∃ v, c = some v ∧ a.eval (.tmp s) = v) ∧ Pins a drop ts
theorem Pins.get {a : Act} {drop : List Nat} : ∀ {ts : List EntC}, Pins a drop ts → ∀ t ∈ ts, t.kill = [] ∧ memN drop t.op = true ∧ ∃ v, t.c = some v ∧ a.eval (.tmp t.slot) = v
 | u :: us, h, t, ht => by
  rcases List.mem_cons.1 ht with rfl | ht
  ·exact h.1
  ·exact Pins.get h.2 t ht
def Nx0 (ops : Array Oper) (Q : Exit → Act → World → Prop) (n : Nat) (fixed : List (Nat × Value)) (es : List EntC) (done : List Nat) (h : Nat) (a : Act) (w w' : World) : Prop :=
 ∃ (pins new : List EntC) (drop : List Nat) (F' : World → Prop), F' w' ∧ Keeps w w' (dropE drop es) ∧ Pins a drop pins ∧ (fitsB n fixed ((pins ++ (new ++ dropE drop es)).map EntC.e) && (drop.all (fun k => memN (doneN ops h done) k) && new.all (fun t => Nat.blt t.op ops.size && (!memN done t.op && (es.all (fun u => u.op != t.op) && t.op != h))))) = true ∧
  St ops Q n fixed (pins ++ (new ++ dropE drop es)) F' (doneN ops h done)
theorem fits_at {es : List EntC} (hf : fitsB n fixed (es.map EntC.e) = true) : (∀ t ∈ es, t.slot < n ∧ fixed.all (fun f => f.1 != t.slot) = true) ∧ ∀ u ∈ es, ∀ t ∈ es, u.kill = [] → t.op < 1000 → u.op = t.op ∨ u.slot ≠ t.slot := by
 simp only [fitsB, Bool.and_eq_true] at hf
 obtain ⟨⟨hf, hn⟩, _⟩ := hf
 have hs : ∀ t : EntC, t.e.slot = t.slot := fun t => by unfold EntC.e; split <;> rfl
 have hk : ∀ t : EntC, t.kill = [] → t.e.kill = [] := fun t h => by unfold EntC.e; split <;> simp [h]
 refine ⟨fun t ht => ?_, fun u hu t ht hku hN => ?_⟩
 ·have := List.all_eq_true.1 hf t.e (List.mem_map_of_mem ht)
  rw [hs] at this
  simpa using this
 ·have := List.all_eq_true.1 (List.all_eq_true.1 hn u.e (List.mem_map_of_mem hu)) t.e (List.mem_map_of_mem ht)
  rw [EntC.e_op, EntC.e_op, hs, hs, hk u hku] at this
  simp only [Bool.or_eq_true, beq_iff_eq, bne_iff_ne, List.contains_nil, Bool.false_eq_true, decide_eq_true_eq, false_or] at this
  rcases this with h | h | h
  ·exact .inl h
  ·exact .inr h
  ·omega
theorem st_go (h : Nat) (hlt : h < ops.size) (hback : ∀ (i : Nat) (o : Oper), ops[i]? = some o → ∀ e ∈ o.after, Region.binds .any e = true → e.on < i) (hB : stB ops n fixed es done h = true) (hN : Nat.ble ops.size 1000 = true) (hF : es.all plainB = true ∨ ∀ w w', F w → Below w.heap.size w w' → F w') (hstab : StabAll es) (hl : LightAll ops Q n fixed F es done es)
  (hh : ∀ (o : Oper) (K : Act → World → Prop) (a : Act) (w : World), ops[h]? = some o → Has a n (fixed ++ knownE (afts ops h) es) → KnownR (afts ops h) a w es → F w → (∀ s v w', o.dst = some s → Nx ops Q n fixed es done h s v w w' → K (a.put (some s) v) w') → (∀ w', o.dst = none → Nx0 ops Q n fixed es done h a w w' → K a w') → wpOp Tryz.prog ops Q h K a w) :
  St ops Q n fixed es F done := by
 simp only [stB, Bool.and_eq_true] at hB
 obtain ⟨hfit, hall, hhd, hhe, hblk⟩ := hB
 have hN : ops.size ≤ 1000 := by simpa using hN
 have hkill : es.all (fun t => t.kill.isEmpty) = true := List.all_eq_true.2 fun t ht => by
  have := List.all_eq_true.1 hall t ht
  simp only [Bool.and_eq_true] at this
  exact this.1
 have hopl : ∀ t ∈ es, t.op < ops.size := fun t ht => by
  have := List.all_eq_true.1 hall t ht
  simp only [Bool.and_eq_true] at this
  simpa [Nat.blt_eq] using this.2
 have hhd : h ∉ done := fun hm => by rw [memN_of hm] at hhd; cases hhd
 have hhe : ∀ t ∈ es, t.op ≠ h := fun t ht => by simpa using List.all_eq_true.1 hhe t ht
 intro fuel
 induction fuel with
 | zero =>
  intro listed a w hs hc hcl hsub hdn hI
  exfalso
  have hnl : listed.getD h false = false := not_ran fun hl' => by
   rcases hsub h hl' with h1 | ⟨t, ht, h1⟩
   ·exact hhd h1
   ·exact hhe t ht h1
  have hi : h < listed.size := by omega
  have h1 : listed.toList[h]? = some false := by
   simp only [Array.getD_eq_getD_getElem?, Array.getElem?_eq_getElem hi, Option.getD_some] at hnl
   simp [hi, hnl]
  have := count_set _ _ h1
  omega
 | succ fuel ih =>
  intro listed a w hs hc hcl hsub hdn hI
  have hnl : listed.getD h false = false := not_ran fun hl' => by
   rcases hsub h hl' with h1 | ⟨t, ht, h1⟩
   ·exact hhd h1
   ·exact hhe t ht h1
  
  have hrdy : ∀ (i : Nat) (o : Oper), ops[i]? = some o → listed.getD i false = false → (∀ e ∈ o.after, Region.binds .any e = true → listed.getD e.on false = true) → i = h ∨ ∃ t ∈ es, t.op = i := by
   intro i o ho h0 hd
   have hi : i < ops.size := (Array.getElem?_eq_some_iff.1 ho).1
   have := List.all_eq_true.1 hblk i (List.mem_range.2 hi)
   simp only [Bool.or_eq_true] at this
   rcases this with h1 | h1 | h1 | h1
   ·rw [hdn i (memN_ok h1)] at h0; cases h0
   ·obtain ⟨t, ht, he⟩ := List.any_eq_true.1 h1
    exact .inr ⟨t, ht, by simpa using he⟩
   ·exact .inl (Nat.eq_of_beq_eq_true h1)
   ·exfalso
    obtain ⟨e, he, h2⟩ := List.any_eq_true.1 h1
    simp only [Bool.and_eq_true, Bool.not_eq_true'] at h2
    unfold afts at he
    rw [ho] at he
    rcases hsub e.on (hd e (by simpa using he) h2.1) with h3 | ⟨t, ht, h3⟩
    ·rw [memN_of h3] at h2; exact absurd h2.2.1 (by decide)
    ·have := List.all_eq_true.1 h2.2.2 t ht
     simp [h3] at this
  have step : ∀ (i : Nat) (o : Oper), ops[i]? = some o → listed.getD i false = false → (∀ e ∈ o.after, Region.binds .any e = true → listed.getD e.on false = true) → wpOp Tryz.prog ops Q i (fun a' w' => wpAny Tryz.prog .any ops Q fuel (listed.setIfInBounds i true) a' w') a w := by
   intro i o ho h0 hd
   rcases hrdy i o ho h0 hd with rfl | hm
   ·have hi : i < listed.size := by omega
    have h1 : listed.toList[i]? = some false := by
     simp only [Array.getD_eq_getD_getElem?, Array.getElem?_eq_getElem hi, Option.getD_some] at h0
     simp [hi, h0]
    have hcs := count_set _ _ h1
    have hcount : (listed.setIfInBounds i true).toList.count false ≤ fuel := by rw [Array.toList_setIfInBounds]; omega
    have hcl' : Closed .any ops (listed.setIfInBounds i true) := by
     intro j oj hoj hj e he hb
     rcases getD_set hj with e2 | hj
     ·subst e2
      rw [ho] at hoj
      injection hoj with hoj
      subst hoj
      exact ran_mono (hd e he hb)
     ·exact ran_mono (hcl j oj hoj hj e he hb)
    have hdn' : ∀ j ∈ doneN ops i done, (listed.setIfInBounds i true).getD j false = true := by
     refine anc_ok hcl' _ ?_
     intro j hj
     rcases List.mem_cons.1 hj with rfl | hj
     ·exact ran_same listed hi
     ·exact ran_mono (hdn j hj)
    have hsize : (listed.setIfInBounds i true).size = ops.size := by simpa using hs
    have hsub' : ∀ {drop : List Nat} {es' : List EntC}, (∀ t ∈ es', ∀ u, u = t → True) → (∀ t ∈ dropE drop es, t ∈ es') → drop.all (fun k => memN (doneN ops i done) k) = true → ∀ j, (listed.setIfInBounds i true).getD j false = true → j ∈ doneN ops i done ∨ ∃ t ∈ es', t.op = j := by
     intro drop es' _ hin hdr j hj
     rcases getD_set hj with e2 | hj
     ·subst e2; exact .inl (anc_sub _ _ List.mem_cons_self)
     ·rcases hsub j hj with h3 | ⟨t, ht, h3⟩
      ·exact .inl (anc_sub _ _ (List.mem_cons_of_mem _ h3))
      ·rcases dropE_in (drop := drop) ht with h4 | h4
       ·rw [← h3]
        exact .inl (memN_ok (List.all_eq_true.1 hdr _ (memN_ok h4)))
       ·exact .inr ⟨t, hin t h4, h3⟩
    refine hh o _ a w ho ?_ ?_ hI.wp ?_ ?_
    ·have := known_ok hI hd (ts := es) fun _ h => h
     have hkk : afts ops i = o.after.toList := by unfold afts; rw [ho]
     rw [hkk]
     exact Has.of hI.sz hI.df (AllEv.app hI.fx this)
    ·have hkk : afts ops i = o.after.toList := by unfold afts; rw [ho]
     rw [hkk]
     exact knownR_ok hI hkill hd fun _ h => h
    ·rintro s v w' hdst ⟨hE, new, drop, F', fixed', hfx, ⟨rfl, rfl, hp, hke⟩, hFw, hkp, hchk, hSt⟩
     simp only [Bool.and_eq_true] at hchk
     obtain ⟨hfit', hdr, hnew⟩ := hchk
     obtain ⟨hf1, hf2⟩ := fits_at hfit'
     refine hSt fuel _ _ w' hsize hcount hcl' (hsub' (fun _ _ _ _ => trivial) (fun t ht => List.mem_cons_of_mem _ (List.mem_append_right _ ht)) hdr) hdn' ?_
     have hm0 := hf1 hE List.mem_cons_self
     refine ⟨by rw [Act.size_put, hI.sz], by rw [Act.defers_put', hI.df], (hfx _ hI.fx).put hm0.2, fun u hu hlu hku => ?_, hFw⟩
     obtain ⟨t, ht, rfl⟩ := List.mem_map.1 hu
     rw [EntC.e_op, hsize] at hlu
     have hsl : t.e.slot = t.slot := by unfold EntC.e; split <;> rfl
     rw [hsl]
     rcases List.mem_cons.1 ht with rfl | ht
     ·rw [Act.eval_put_same _ _ _ (by rw [hI.sz]; exact hm0.1)]
      exact hp
     ·rcases List.mem_append.1 ht with ht' | ht'
      ·exfalso
       have := List.all_eq_true.1 hnew t ht'
       simp only [Bool.and_eq_true, Bool.not_eq_true', bne_iff_ne] at this
       obtain ⟨n0, n1, n2, n3⟩ := this
       have n0 : t.op < ops.size := by simpa [Nat.blt_eq] using n0
       rcases hlu with hlu | hlu
       ·omega
       ·rcases getD_set hlu with e2 | hlu
        ·exact n3 e2
        ·rcases hsub _ hlu with h3 | ⟨u, hu, h3⟩
         ·rw [memN_of h3] at n1; cases n1
         ·have := List.all_eq_true.1 n2 u hu
          simp [h3] at this
      ·obtain ⟨hte, _⟩ := dropE_ok ht'
       have hto := hopl t hte
       have hlt' : listed.getD t.op false = true := by
        rcases hlu with hlu | hlu
        ·omega
        ·rcases getD_set hlu with e2 | hlu
         ·exact absurd e2 (hhe t hte)
         ·exact hlu
       have hne : hE.slot ≠ t.slot := by
        have hkt : t.kill = [] := by simpa using List.all_eq_true.1 hkill t hte
        rcases hf2 t (List.mem_cons_of_mem _ ht) hE List.mem_cons_self hkt (by omega) with h3 | h3
        ·exact absurd h3 (hhe t hte)
        ·exact fun e => h3 e.symm
       rw [Act.eval_put_ne _ _ _ _ hne]
       have hold := hI.vs t.e (List.mem_map_of_mem hte) (.inr (by rw [EntC.e_op]; exact hlt')) (by
        have hkt : t.kill = [] := by simpa using List.all_eq_true.1 hkill t hte
        have : t.e.kill = [] := by unfold EntC.e; split <;> simp [hkt]
        rw [this]; trivial)
       rw [hsl] at hold
       exact hkp.get t ht' _ hold
    ·rintro w' hdst ⟨pins, new, drop, F', hFw, hkp, hpin, hchk, hSt⟩
     simp only [Bool.and_eq_true] at hchk
     obtain ⟨hfit', hdr, hnew⟩ := hchk
     refine hSt fuel _ _ w' hsize hcount hcl' (hsub' (fun _ _ _ _ => trivial) (fun t ht => List.mem_append_right _ (List.mem_append_right _ ht)) hdr) hdn' ?_
     refine ⟨hI.sz, hI.df, hI.fx, fun u hu hlu hku => ?_, hFw⟩
     obtain ⟨t, ht, rfl⟩ := List.mem_map.1 hu
     rw [EntC.e_op, hsize] at hlu
     have hsl : t.e.slot = t.slot := by unfold EntC.e; split <;> rfl
     rw [hsl]
     rcases List.mem_append.1 ht with ht' | ht
     ·obtain ⟨_, _, v, hv, he⟩ := hpin.get t ht'
      simp only [EntC.e, hv]
      exact he
     rcases List.mem_append.1 ht with ht' | ht'
     ·exfalso
      have := List.all_eq_true.1 hnew t ht'
      simp only [Bool.and_eq_true, Bool.not_eq_true', bne_iff_ne] at this
      obtain ⟨n0, n1, n2, n3⟩ := this
      have n0 : t.op < ops.size := by simpa [Nat.blt_eq] using n0
      rcases hlu with hlu | hlu
      ·omega
      ·rcases getD_set hlu with e2 | hlu
       ·exact n3 e2
       ·rcases hsub _ hlu with h3 | ⟨u, hu, h3⟩
        ·rw [memN_of h3] at n1; cases n1
        ·have := List.all_eq_true.1 n2 u hu
         simp [h3] at this
     ·obtain ⟨hte, _⟩ := dropE_ok ht'
      have hto := hopl t hte
      have hlt' : listed.getD t.op false = true := by
       rcases hlu with hlu | hlu
       ·omega
       ·rcases getD_set hlu with e2 | hlu
        ·exact absurd e2 (hhe t hte)
        ·exact hlu
      have hold := hI.vs t.e (List.mem_map_of_mem hte) (.inr (by rw [EntC.e_op]; exact hlt')) (by
       have hkt : t.kill = [] := by simpa using List.all_eq_true.1 hkill t hte
       have : t.e.kill = [] := by unfold EntC.e; split <;> simp [hkt]
       rw [this]; trivial)
      rw [hsl] at hold
      exact hkp.get t ht' _ hold
   ·exact st_light hfit hkill hN hF hstab hl (fun listed a w => ih listed a w) hs hc hcl hsub hdn hI h0 ho hd hm
  refine ⟨fun hnil => ?_, fun i hm => ?_⟩
  ·rw [all_listed hback hs hnil h hlt] at hnl; cases hnl
  ·obtain ⟨h0, o, ho, hd⟩ := mem_ready.1 hm
   have hi : i < listed.size := by
    have := (Array.getElem?_eq_some_iff.1 ho).1
    omega
   refine step i o ho ?_ hd
   simp only [Array.getD_eq_getD_getElem?, Array.getElem?_eq_getElem hi, Option.getD_some] at h0 ⊢
   exact h0
abbrev backB (ops : Array Oper) : Bool := (List.range ops.size).all (fun i => match ops[i]? with | some o => o.after.all (fun e => !Region.binds .any e || decide (e.on < i)) | none => true)
theorem Has.sg {a : Act} {w : World} {c : Code} {id : Nat} {Q' : Exit → Act → World → Prop} (H : Has a n l) (F : World → Prop) (hw : F w.drew) (ss : List Nat) (es : List EntC) (hc : peel Tryz.prog c Q' = (.region id ops true, Q)) (hSt : St ops Q n fixed es F []) (hs : sel l ss = some fixed := by rfl)
  (hel : es.all (fun t => Nat.blt t.op ops.size) = true := by kernel_rfl) (hm : Tryz.prog.follows .mixedOrders = true := by kernel_rfl) : c.wp Tryz.prog Q' a w := by
 refine peel_wp c Q' ?_
 rw [hc]
 refine wp_region_any hm (hSt ops.size _ a _ (by simp) (by simp) ?_ ?_ (fun j hj => by cases hj) ⟨H.sz, H.df, sel_ok H hs, ?_, hw⟩)
 ·intro i o _ h
  rw [none_ran] at h
  cases h
 ·intro j hj
  rw [none_ran] at hj
  cases hj
 ·intro u hu hl _
  obtain ⟨t, ht, rfl⟩ := List.mem_map.1 hu
  rw [EntC.e_op] at hl
  have : t.op < ops.size := by simpa [Nat.blt_eq] using List.all_eq_true.1 hel t ht
  rcases hl with hl | hl
  ·rw [Array.size_replicate] at hl; omega
  ·rw [none_ran] at hl; cases hl
abbrev nxB (ops : Array Oper) (n : Nat) (fixed : List (Nat × Value)) (es : List EntC) (done : List Nat) (h : Nat) (new : List EntC) (drop : List Nat) (hE : List EntC) : Bool :=
 fitsB n fixed ((hE ++ (new ++ dropE drop es)).map EntC.e) && (drop.all (fun k => memN (doneN ops h done) k) && new.all (fun t => Nat.blt t.op ops.size && (!memN done t.op && (es.all (fun u => u.op != t.op) && t.op != h))))
section
variable {h d : Nat} {v : Value} {w w' : World} {o : Oper}
theorem nx (F' : World → Prop) (new : List EntC) (drop : List Nat) (hF : F' w') (hSt : St ops Q n fixed (ec h d v :: (new ++ dropE drop es)) F' (doneN ops h done)) (hk : Keeps w w' (dropE drop es) := by exact trivial) (hc : nxB ops n fixed es done h new drop [ec h d v] = true := by kernel_rfl) : Nx ops Q n fixed es done h d v w w' :=
 ⟨ec h d v, new, drop, F', fixed, fun _ h => h, ⟨rfl, rfl, rfl, rfl⟩, hF, hk, hc, hSt⟩
theorem nxl (fixed' : List (Nat × Value)) (hs : ∀ a, AllEv a fixed → AllEv a fixed') (F' : World → Prop) (new : List EntC) (drop : List Nat) (hF : F' w') (hSt : St ops Q n fixed' (ec h d v :: (new ++ dropE drop es)) F' (doneN ops h done)) (hk : Keeps w w' (dropE drop es) := by exact trivial) (hc : nxB ops n fixed' es done h new drop [ec h d v] = true := by kernel_rfl) : Nx ops Q n fixed es done h d v w w' :=
 ⟨ec h d v, new, drop, F', fixed', hs, ⟨rfl, rfl, rfl, rfl⟩, hF, hk, hc, hSt⟩
theorem nxp {a : Act} (F' : World → Prop) (pins new : List EntC) (drop : List Nat) (hF : F' w') (hp : Pins a drop pins) (hSt : St ops Q n fixed (pins ++ (new ++ dropE drop es)) F' (doneN ops h done)) (hk : Keeps w w' (dropE drop es) := by exact trivial) (hc : nxB ops n fixed es done h new drop pins = true := by kernel_rfl) : Nx0 ops Q n fixed es done h a w w' :=
 ⟨pins, new, drop, F', hF, hk, hp, hc, hSt⟩
theorem nx0 {a : Act} (F' : World → Prop) (new : List EntC) (drop : List Nat) (hF : F' w') (hSt : St ops Q n fixed (new ++ dropE drop es) F' (doneN ops h done)) (hk : Keeps w w' (dropE drop es) := by exact trivial) (hc : nxB ops n fixed es done h new drop [] = true := by kernel_rfl) : Nx0 ops Q n fixed es done h a w w' :=
 nxp F' [] new drop hF trivial hSt hk hc
theorem St.call (h : Nat) {f : FuncId} {xs : Array Operand} {ats : Array TypeId} {vs : List Value} {R : World → Value → World → Prop} (hl : LightAll ops Q n fixed F es done es) (hc : ∀ w, F w → Calls Tryz.prog f vs.toArray w fun e w' => ∃ v, e = .returned v ∧ R w v w') (hn : ∀ w v w', F w → R w v w' → Nx ops Q n fixed es done h d v w w')
  (ho : ops[h]? = some o := by rfl) (hp : o.op = .call { callee := .value (.func f), args := xs, argTypes := ats } := by rfl) (hd : o.dst = some d := by rfl) (hg : okG ops (fixed ++ knownE (afts ops h) es) o = true := by rfl) (hx : evLs (fixed ++ knownE (afts ops h) es) xs.toList = some vs := by rfl)
  (hen : ∀ (args : Array Value) (w : World), (callFunc f args).run Tryz.prog w = .ok (.enter f args) w := by exact fun _ _ => by kernel_rfl) (hB : stB ops n fixed es done h = true := by kernel_rfl) (hN : Nat.ble ops.size 1000 = true := by kernel_rfl) (hback : backB ops = true := by kernel_rfl)
  (hF : es.all plainB = true ∨ ∀ w w', F w → Below w.heap.size w w' → F w' := by exact .inl rfl) (hst : StabAll es := by exact trivial) : St ops Q n fixed es F done := by
 refine st_go h (Array.getElem?_eq_some_iff.1 ho).1 (back_of hback) hB hN hF hst hl ?_
 intro o' K a w ho' H _ hFw hK _
 rw [ho] at ho'
 injection ho' with ho'
 subst ho'
 exact wpOp_enter ho (okG_w H hg) d hd f _ (run_callH H hp hx hen) _ (hc w hFw) fun v w' hR => hK d v w' hd (hn w v w' hFw hR)
theorem St.val (h : Nat) (hl : LightAll ops Q n fixed F es done es) (hrun : ∀ a w, Has a n (fixed ++ knownE (afts ops h) es) → KnownR (afts ops h) a w es → F w → ∃ v w', (execOp a.eval o).run Tryz.prog w = .ok (.value v) w' ∧ Nx ops Q n fixed es done h d v w w')
  (ho : ops[h]? = some o := by rfl) (hd : o.dst = some d := by rfl) (hg : okG ops (fixed ++ knownE (afts ops h) es) o = true := by rfl) (hB : stB ops n fixed es done h = true := by kernel_rfl) (hN : Nat.ble ops.size 1000 = true := by kernel_rfl) (hback : backB ops = true := by kernel_rfl)
  (hF : es.all plainB = true ∨ ∀ w w', F w → Below w.heap.size w w' → F w' := by exact .inl rfl) (hst : StabAll es := by exact trivial) : St ops Q n fixed es F done := by
 refine st_go h (Array.getElem?_eq_some_iff.1 ho).1 (back_of hback) hB hN hF hst hl ?_
 intro o' K a w ho' H hr hFw hK _
 rw [ho] at ho'
 injection ho' with ho'
 subst ho'
 obtain ⟨v, w', hx, hn⟩ := hrun a w H hr hFw
 exact wpOp_go ho (okG_w H hg) d hd v w' hx (hK d v w' hd hn)
theorem St.app (h : Nat) {s x : Operand} {t e : TypeId} {base size bytes m : Nat} {z : Value} {u : Value} {k c : Nat} {A : Option Addr} {xs ys : List Value} (hi : (Tryz.prog.info? e).map (fun i => (i.zero, i.size, i.bytes)) = some (some z, size, bytes)) (hl : LightAll ops Q n fixed F es done es)
  (hrun : ∀ w, F w → w.ownsRow base e size u k xs ∧ Reads w w.heap.size size A m ys ∧ base ≤ w.heap.size) (h1 : ∀ u ∈ ys, u.oneCell' = true) (hn : k + m ≤ maxLen ∧ (k + m) * bytes ≤ 140737488355328) (hk : ∀ w A' c' w', F w → w'.ownsRow base e size (.slice A' (k + m) c') (k + m) (xs ++ ys) → w.grownBy w' u.ownBlock → Nx ops Q n fixed es done h d (.slice A' (k + m) c') w w')
  (ho : ops[h]? = some o := by rfl) (hp : o.op = .call { callee := .builtin .append, args := #[s, x], argTypes := #[t, t] } := by rfl) (hd : o.dst = some d := by rfl) (ht : Tryz.prog.underlying t = some (.slice e) := by kernel_rfl) (hzs : z.cells.size = size := by rfl) (hsz : 0 < size := by decide) (hg : okG ops (fixed ++ knownE (afts ops h) es) o = true := by rfl)
  (hs : evL (fixed ++ knownE (afts ops h) es) s = some u := by rfl) (hx : evL (fixed ++ knownE (afts ops h) es) x = some (.slice A m c) := by rfl) (hB : stB ops n fixed es done h = true := by kernel_rfl) (hN : Nat.ble ops.size 1000 = true := by kernel_rfl) (hback : backB ops = true := by kernel_rfl)
  (hF : es.all plainB = true ∨ ∀ w w', F w → Below w.heap.size w w' → F w' := by exact .inl rfl) (hst : StabAll es := by exact trivial) : St ops Q n fixed es F done := by
 refine St.val h hl ?_ ho hd hg hB hN hback hF hst
 intro a w H _ hFw
 obtain ⟨r1, r2, r3⟩ := hrun w hFw
 obtain ⟨A', c', w', hr, hO, hgr⟩ := run_app (a := a) hp ht hi hzs hsz (H.ev hs) r1 (H.ev hx) r2 h1 hn.1 hn.2 r3
 exact ⟨_, w', hr, hk w A' c' w' hFw hO hgr⟩
theorem St.sto (h : Nat) (hl : LightAll ops Q n fixed F es done es) (hrun : ∀ a w, Has a n (fixed ++ knownE (afts ops h) es) → KnownR (afts ops h) a w es → F w → ∃ w', (execOp a.eval o).run Tryz.prog w = .ok .skip w' ∧ Nx0 ops Q n fixed es done h a w w')
  (ho : ops[h]? = some o := by rfl) (hd : o.dst = none := by rfl) (hg : okG ops (fixed ++ knownE (afts ops h) es) o = true := by rfl) (hB : stB ops n fixed es done h = true := by kernel_rfl) (hN : Nat.ble ops.size 1000 = true := by kernel_rfl) (hback : backB ops = true := by kernel_rfl)
  (hF : es.all plainB = true ∨ ∀ w w', F w → Below w.heap.size w w' → F w' := by exact .inl rfl) (hst : StabAll es := by exact trivial) : St ops Q n fixed es F done := by
 refine st_go h (Array.getElem?_eq_some_iff.1 ho).1 (back_of hback) hB hN hF hst hl ?_
 intro o' K a w ho' H hr hFw _ hK
 rw [ho] at ho'
 injection ho' with ho'
 subst ho'
 obtain ⟨w', hx, hn⟩ := hrun a w H hr hFw
 exact wpOp_do ho (okG_w H hg) hd w' hx (hK w' hd hn)
end
theorem St.fin (hl : LightAll ops Q n fixed F es done es) (hfin : ∀ (a : Act) (w : World), Has a n (fixed ++ finV es) → FinR a w es → F w → Q .normal a w) (hB : (fitsB n fixed (es.map EntC.e) && (es.all (fun t => t.kill.isEmpty && Nat.blt t.op ops.size) && ((List.range ops.size).all (fun k => memN done k || es.any (fun t => t.op == k)) && Nat.ble ops.size 1000))) = true := by kernel_rfl) (hback : backB ops = true := by kernel_rfl)
  (hF : es.all plainB = true ∨ ∀ w w', F w → Below w.heap.size w w' → F w' := by exact .inl rfl) (hst : StabAll es := by exact trivial) : St ops Q n fixed es F done := by
 simp only [Bool.and_eq_true] at hB
 obtain ⟨hfit, hall, hcov, hN⟩ := hB
 have hN : ops.size ≤ 1000 := by simpa using hN
 have hkill : es.all (fun t => t.kill.isEmpty) = true := List.all_eq_true.2 fun t ht => by
  have := List.all_eq_true.1 hall t ht
  simp only [Bool.and_eq_true] at this
  exact this.1
 have hopl : ∀ t ∈ es, t.op < ops.size := fun t ht => by
  have := List.all_eq_true.1 hall t ht
  simp only [Bool.and_eq_true] at this
  simpa [Nat.blt_eq] using this.2
 have fin : ∀ (listed : Array Bool) (a : Act) (w : World), listed.size = ops.size → Region.ready .any ops listed = [] → InvB n fixed (es.map EntC.e) F listed a w → Q .normal a w := by
  intro listed a w hs hnil hI
  have hall' : ∀ t ∈ es, listed.getD t.op false = true := fun t ht => all_listed (back_of hback) hs hnil t.op (hopl t ht)
  exact hfin a w (Has.of hI.sz hI.df (AllEv.app hI.fx (finV_ok hI hall' fun _ h => h))) (finR_ok hI hkill hall' fun _ h => h) hI.wp
 intro fuel
 induction fuel with
 | zero =>
  intro listed a w hs hc hcl hsub hdn hI
  have hnil : Region.ready .any ops listed = [] := by
   rcases hr : Region.ready .any ops listed with _ | ⟨i, rs⟩
   ·rfl
   ·exfalso
    have hm : i ∈ Region.ready .any ops listed := by rw [hr]; exact List.mem_cons_self
    obtain ⟨h0, o, ho, _⟩ := mem_ready.1 hm
    have hi : i < listed.size := by
     have := (Array.getElem?_eq_some_iff.1 ho).1
     omega
    have h1 : listed.toList[i]? = some false := by
     simp only [Array.getD_eq_getD_getElem?, Array.getElem?_eq_getElem hi, Option.getD_some] at h0
     simp [hi, h0]
    have := count_set _ _ h1
    omega
  exact ⟨hnil, fin listed a w hs hnil hI⟩
 | succ fuel ih =>
  intro listed a w hs hc hcl hsub hdn hI
  refine ⟨fun hnil => fin listed a w hs hnil hI, fun i hm => ?_⟩
  obtain ⟨h0, o, ho, hd⟩ := mem_ready.1 hm
  have hi : i < listed.size := by
   have := (Array.getElem?_eq_some_iff.1 ho).1
   omega
  have h0' : listed.getD i false = false := by
   simp only [Array.getD_eq_getD_getElem?, Array.getElem?_eq_getElem hi, Option.getD_some] at h0 ⊢
   exact h0
  refine st_light hfit hkill hN hF hst hl (fun listed a w => ih listed a w) hs hc hcl hsub hdn hI h0' ho hd ?_
  have := List.all_eq_true.1 hcov i (List.mem_range.2 (by omega))
  simp only [Bool.or_eq_true] at this
  rcases this with h1 | h1
  ·rw [hdn i (memN_ok h1)] at h0'; cases h0'
  ·obtain ⟨t, ht, he⟩ := List.any_eq_true.1 h1
   exact ⟨t, ht, by simpa using he⟩
end
end
section
open Go.RowKit
section
variable {ops : Array Oper} {Q : Exit → Act → World → Prop} {n : Nat} {l : List (Nat × Value)} {F : World → Prop}
def TabAll (ops : Array Oper) (Q : Exit → Act → World → Prop) (n : Nat) (F : World → Prop) : List (Nat × Value) → List EntC → Prop
 | _, [] => True
 | l, ⟨k, s, _ks, c, _q, m⟩ :: ts => match c, m with
  | some v, false => PureE ops Q n l F k s v ∧ TabAll ops Q n F ((s, v) :: l) ts
  | some v, true => HeavyE ops Q n l F [] (eh k s v) ∧ TabAll ops Q n F ((s, v) :: l) ts
  | none, _ => False
def tabV : List (Nat × Value) → List EntC → List (Nat × Value)
 | l, [] => l
 | l, ⟨_, s, _, c, _, _⟩ :: ts => match c with
  | some v => tabV ((s, v) :: l) ts
  | none => l
def tabB (ops : Array Oper) (n : Nat) : Nat → List EntC → Bool
 | i, [] => Nat.beq i ops.size
 | i, t :: ts => Nat.beq t.op i && (Nat.blt t.slot n && tabB ops n (i + 1) ts)
theorem tabB_len : ∀ {ts : List EntC} {i : Nat}, tabB ops n i ts = true → i + ts.length = ops.size
 | [], i, h => Nat.eq_of_beq_eq_true h
 | t :: ts, i, h => by
  simp only [tabB, Bool.and_eq_true] at h
  have := tabB_len h.2.2
  simp only [List.length_cons]
  omega
theorem wpList_of_op {P : Program} {o : Oper} {rest : List Oper} {a : Act} {w : World} {i : Nat} (ho : ops[i]? = some o) (h : wpOp P ops Q i (fun a' w' => wpList P ops Q rest a' w') a w) : wpList P ops Q (o :: rest) a w := by
 simp only [wpOp, ho] at h
 exact h
theorem tab_ok (hk : ∀ w w', F w → Below w.heap.size w w' → F w') : ∀ (ts : List EntC) (i : Nat) {l : List (Nat × Value)} {a : Act} {w : World}, tabB ops n i ts = true → Has a n l → F w → TabAll ops Q n F l ts → (∀ a w, Has a n (tabV l ts) → F w → Q .normal a w) → wpList Tryz.prog ops Q (ops.toList.drop i) a w
 | [], i, l, a, w, hb, H, hF, _, hfin => by
  have : i = ops.size := Nat.eq_of_beq_eq_true hb
  subst this
  rw [← Array.length_toList, List.drop_length]
  exact wpList_nil (hfin a w H hF)
 | t :: ts, i, l, a, w, hb, H, hF, hT, hfin => by
  simp only [tabB, Bool.and_eq_true] at hb
  have hop : t.op = i := Nat.eq_of_beq_eq_true hb.1
  unfold TabAll at hT
  unfold tabV at hfin
  have hlt : i < ops.size := by have := tabB_len hb.2.2; omega
  have go : wpOp Tryz.prog ops Q i (fun a' w' => wpList Tryz.prog ops Q (ops.toList.drop (i + 1)) a' w') a w → wpList Tryz.prog ops Q (ops.toList.drop i) a w := by
   intro h
   obtain ⟨o, ho⟩ : ∃ o, ops[i]? = some o := ⟨_, Array.getElem?_eq_getElem hlt⟩
   obtain ⟨hi, he⟩ := Array.getElem?_eq_some_iff.1 ho
   have : ops.toList.drop i = o :: ops.toList.drop (i + 1) := by
    rw [List.drop_eq_getElem_cons (by simpa using hi)]
    simp [he]
   rw [this]
   exact wpList_of_op ho h
  split at hT
  ·next v hc hm =>
   rw [hc] at hfin
   rw [hop] at hT
   refine go (hT.1 _ a w H hF ?_)
   exact tab_ok hk ts (i + 1) hb.2.2 (H.put hb.2.1 v) hF hT.2 hfin
  ·next v hc hm =>
   rw [hc] at hfin
   rw [hop] at hT
   refine go (hT.1 _ a w ?_ trivial hF ?_)
   ·have : l ++ knownE (afts ops (eh i t.slot v).op) [] = l := List.append_nil l
    rw [this]; exact H
   ·rintro v' w' hv hbl
    have hv : v' = v := hv
    subst hv
    exact tab_ok hk ts (i + 1) hb.2.2 (H.put hb.2.1 v') (hk _ _ hF hbl) hT.2 hfin
  ·exact False.elim hT
theorem Has.tb {a : Act} {w : World} {c : Code} {id : Nat} {Q' : Exit → Act → World → Prop} (H : Has a n l) (F : World → Prop) (hk : ∀ w w', F w → Below w.heap.size w w' → F w') (hF : F w) (es : List EntC) (hc : peel Tryz.prog c Q' = (.region id ops false, Q)) (hT : TabAll ops Q n F l es) (hfin : ∀ a w, Has a n (tabV l es) → F w → Q .normal a w)
  (hb : tabB ops n 0 es = true := by kernel_rfl) : c.wp Tryz.prog Q' a w := by
 refine peel_wp c Q' ?_
 rw [hc]
 exact wp_region_list (tab_ok hk es 0 hb H hF hT hfin)
end
end
section
open Go.RowKit
section
variable {P : Program} {Q : Exit → Act → World → Prop} {a : Act} {w : World}
theorem wp_loop_up {c : Code} (N : Nat) (J : Nat → Act → World → Prop) (h0 : J 0 a w) (round : ∀ k a w, k ≤ N → J k a w → c.wp P (Exit.then (fun a' w' => k < N ∧ J (k + 1) a' w') Q) a w) : (Code.loop c).wp P Q a w := by
 have key : ∀ n k a w, N - k = n → k ≤ N → J k a w → Code.rounds P c Q (n + 1) a w := by
  intro n
  induction n with
  | zero =>
   intro k a w hn hk hJ
   rw [rounds_succ]
   refine wp_mono (round k a w hk hJ) ?_
   intro e a' w' he
   cases e with
   | normal => exact absurd he.1 (by omega)
   | _ => exact he
  | succ n ih =>
   intro k a w hn hk hJ
   rw [rounds_succ]
   refine wp_mono (round k a w hk hJ) ?_
   intro e a' w' he
   cases e with
   | normal => exact ih (k + 1) a' w' (by omega) he.1 he.2
   | _ => exact he
 exact wp_loop_rounds (N + 1) (key N 0 a w (by omega) (Nat.zero_le _) h0)
theorem then_exit {next : Act → World → Prop} {id : Nat} (h : Q (.exit id) a w) : Exit.then next Q (.exit id) a w := h
theorem block_leave {id : Nat} (h : Q .normal a w) : Exit.inBlock id Q (.exit id) a w := by
 simp only [Exit.inBlock, if_true]
 exact h
end
theorem shr8 (k : Int) (_h0 : 0 ≤ k) (_h1 : k ≤ 65535) (x y : Operand) (w : World) : (do eqGuard .shr 3 x y (iz k) (.int .u64 8); binOp .shr 3 (iz k) (.int .u64 8) : Sem Value).run Tryz.prog w = .ok (iz (k / 256)) w := by
 simp [go_sem]
theorem lss_i (u v : Int) (b : Bool) (h : decide (u < v) = b) (x y : Operand) (w : World) : (do eqGuard .lss 3 x y (iz u) (iz v); binOp .lss 3 (iz u) (iz v) : Sem Value).run Tryz.prog w = .ok (.bool b) w := by
 subst h
 simp [go_sem]
theorem gtr_i (u v : Int) (b : Bool) (h : decide (v < u) = b) (x y : Operand) (w : World) : (do eqGuard .gtr 3 x y (iz u) (iz v); binOp .gtr 3 (iz u) (iz v) : Sem Value).run Tryz.prog w = .ok (.bool b) w := by
 subst h
 simp [go_sem]
theorem geq_i (u v : Int) (b : Bool) (h : decide (v ≤ u) = b) (x y : Operand) (w : World) : (do eqGuard .geq 3 x y (iz u) (iz v); binOp .geq 3 (iz u) (iz v) : Sem Value).run Tryz.prog w = .ok (.bool b) w := by
 subst h
 simp [go_sem]
theorem succ_i (k : Nat) (h : k < 9223372036854775807) (x y : Operand) (w : World) : (do eqGuard .add 3 x y (iz k) (iz 1); binOp .add 3 (iz k) (iz 1) : Sem Value).run Tryz.prog w = .ok (iz ((k + 1 : Nat) : Int)) w := by
 simp [go_sem]
 exact IntWalk.i64_in _ (by omega)
theorem index_1 (T : TypeId) (hT : Tryz.prog.underlying T = some (.slice (Tryz.prog.elem T))) (hs : ∀ w, (sizeOf (Tryz.prog.elem T)).run Tryz.prog w = .ok 1 w) (b o n c k : Nat) (hk : k < n) (w : World) : (Instr.indexAt T (.slice (some ⟨b, o, none⟩) n c) (iz k)).run Tryz.prog w = .ok (.pointer (some ⟨b, o + k, none⟩)) w := by
 rw [run_indexAt_slice (h := hT), if_pos ⟨by omega, by omega⟩, hs]
 have e : (Addr.mk b o none).add ((k : Int).toNat * 1) = ⟨b, o + k, none⟩ := by
  rw [Int.toNat_natCast, Nat.mul_one]
  unfold Addr.add
  by_cases h : k = 0 <;> simp [h]
 rw [Result.andThen_ok, e]
theorem index_2 (T : TypeId) (hT : Tryz.prog.underlying T = some (.slice (Tryz.prog.elem T))) (hs : ∀ w, (sizeOf (Tryz.prog.elem T)).run Tryz.prog w = .ok 2 w) (b o n c k : Nat) (hk : k < n) (w : World) : (Instr.indexAt T (.slice (some ⟨b, o, none⟩) n c) (iz k)).run Tryz.prog w = .ok (.pointer (some ⟨b, o + k * 2, none⟩)) w := by
 rw [run_indexAt_slice (h := hT), if_pos ⟨by omega, by omega⟩, hs]
 have e : (Addr.mk b o none).add ((k : Int).toNat * 2) = ⟨b, o + k * 2, none⟩ := by
  rw [Int.toNat_natCast]
  unfold Addr.add
  by_cases h : k = 0
  ·simp [h]
  ·rw [if_neg (by omega)]
 rw [Result.andThen_ok, e]
section
variable {P : Program} {ops : Array Oper} {rest : List Oper} {o : Oper} {a : Act} {w : World} {Q : Exit → Act → World → Prop} {n : Nat} {l : List (Nat × Value)}
theorem Has.index (H : Has a n l) (hw : Region.wanted o (yielded ops a.tmps) = true) {T d : Nat} {x i : Operand} {u v r : Value} (ho : o.op = .indexAddr T x i) (hd : o.dst = some d) (hn : Nat.blt d n = true) (hx : evL l x = some u) (hi : evL l i = some v)
  (hq : (Instr.indexAt T u v).run P w = .ok r w) (h : ∀ a', Has a' n ((d, r) :: l) → wpList P ops Q rest a' w) : wpList P ops Q (o :: rest) a w := by
 refine H.go hw hd hn _ ?_ h
 unfold execOp
 simp only [ho, H.ev hx, H.ev hi, Sem.run_bind, hq, Result.andThen_ok, Sem.run_pure]
theorem Has.len (H : Has a n l) (hw : Region.wanted o (yielded ops a.tmps) = true) {d : Nat} {s : Operand} {t : TypeId} {A : Option Addr} {m c : Nat} (ho : o.op = .call { callee := .builtin .len, args := #[s], argTypes := #[t] }) (hd : o.dst = some d) (hn : Nat.blt d n = true) (hs : evL l s = some (.slice A m c)) {e : TypeId} (ht : P.underlying t = some (.slice e))
  (h : ∀ a', Has a' n ((d, iz m) :: l) → wpList P ops Q rest a' w) : wpList P ops Q (o :: rest) a w :=
 H.go hw hd hn _ (run_len ho (H.ev hs) ht) h
theorem Has.bytes (H : Has a n l) (hw : Region.wanted o (yielded ops a.tmps) = true) {d k : Nat} (hd : o.dst = some d) (hn : Nat.blt d n = true) (xs : List UInt8) (vs : List Value) (hxs : vs = xs.map bv) (hk : xs.length = k) (e : TypeId) (hs : ∀ cs b, o.op ≠ .select cs b) (hops : o.op.operands.all (fun x => (evL l x).isSome) = true)
  (hrun : (execOp (fun x => (evL l x).getD undef) o).run P w = .ok (.value (.slice (some ⟨w.heap.size, 0, none⟩) k k)) (w.alloc (.cells vs.toArray e)))
  (h : ∀ a' v w', Has a' n ((d, v) :: l) → BytesAre xs v w' → Below w.heap.size w w' → wpList P ops Q rest a' w') : wpList P ops Q (o :: rest) a w := by
 obtain ⟨h1, h2⟩ := bytes_lit w xs vs hxs e k hk
 exact H.go hw hd hn _ (run_any H hs hops hrun) (fun a' H' => h a' _ _ H' h1 h2)
theorem Has.appendRow (H : Has a n l) (hgb : P.underlying 31 = some (.slice 5)) (hi : (P.info? 5).map (fun i => (i.zero, i.size, i.bytes)) = some (some (.int .u8 0), 1, 1)) (hw : Region.wanted o (yielded ops a.tmps) = true) {d : Nat} {s x : Operand}
  (ho : o.op = .call { callee := .builtin .append, args := #[s, x], argTypes := #[31, 31] }) (hd : o.dst = some d) (hn : Nat.blt d n = true) {b : Nat} {xs ys : List UInt8} {v u : Value} (hs : evL l s = some v) (hx : evL l x = some u) (hv : RowIs b xs v w) (hu : BytesAre ys u w)
  (hl : xs.length + ys.length ≤ 140737488355328) (hb : b ≤ w.heap.size) (h : ∀ a' v' w', Has a' n ((d, v') :: l) → RowIs b (xs ++ ys) v' w' → Below b w w' → w.grownBy w' v.ownBlock → wpList P ops Q rest a' w') : wpList P ops Q (o :: rest) a w := by
 obtain ⟨v', w', hrun, h1, h2, h3⟩ := run_append_row (P := P) (a := a) (w := w) hgb hi (o := o) ho (H.ev hs) (H.ev hx) hv hu hl hb
 exact H.go hw hd hn v' hrun (fun a' H' => h a' v' w' H' h1 h2 h3)
end
section
variable {P : Program} {o : Oper} {a : Act} {w : World}
end
end
section
open Go.RowKit
section
variable {P : Program} {ops : Array Oper} {Q : Exit → Act → World → Prop}
theorem upon_then {o : Oper} {a : Act} {K : Act → World → Prop} {St : Act → World → Prop} {r : Result Next} (h : o.upon P a K (Exit.then St Q) r) : o.upon P a K Q r := by
 cases r with
 | ok n w' =>
  cases n with
  | enter f args =>
   refine Calls.mono h ?_
   intro e w'' he
   cases e with
   | returned v => exact he
   | panicked c => exact he
   | outgrown => exact he
  | _ => exact h
 | halt x w' =>
  cases x <;> exact h
theorem wpList_join {St : Act → World → Prop} (h2 : List Oper) (h : ∀ a w, St a w → wpList P ops Q h2 a w) : ∀ (l : List Oper) (a : Act) (w : World), wpList P ops (Exit.then St Q) l a w → wpList P ops Q (l ++ h2) a w
 | [], a, w, hl => h a w hl
 | o :: l, a, w, hl => by
  rw [List.cons_append]
  unfold wpList at hl ⊢
  split at hl
  ·next hw =>
   rw [if_pos hw]
   rcases hl with hl | ⟨h1, h3⟩
   ·left
    exact upon_then (Oper.wp_mono (fun a w hh => wpList_join h2 h l a w hh) hl)
   ·exact .inr ⟨h1, h3⟩
  ·next hw =>
   rw [if_neg hw]
   exact wpList_join h2 h l _ _ hl
theorem wpList_cut {l : List Oper} {a : Act} {w : World} (k : Nat) (St : Act → World → Prop) (h1 : wpList P ops (Exit.then St Q) (l.take k) a w) (h2 : ∀ a w, St a w → wpList P ops Q (l.drop k) a w) : wpList P ops Q l a w := by
 rw [← List.take_append_drop k l]
 exact wpList_join _ h2 _ _ _ h1
end
theorem leq_i (u v : Int) (b : Bool) (h : decide (u ≤ v) = b) (x y : Operand) (w : World) : (do eqGuard .leq 3 x y (iz u) (iz v); binOp .leq 3 (iz u) (iz v) : Sem Value).run Tryz.prog w = .ok (.bool b) w := by
 subst h
 simp [go_sem]
theorem wp_scope_one {P : Program} {a : Act} {w : World} {Q : Exit → Act → World → Prop} {c r0 : Code} {k : Nat} (hf : findLabel c k = some (.seq .skip r0)) (J : Act → World → Prop) (μ : Act → World → Nat) (first : (∀ a w, J a w → r0.wp P (Exit.jump k J Q) a w) → c.wp P (Exit.jump k J Q) a w)
  (pass : ∀ a w, J a w → r0.wp P (Exit.jump k (fun a' w' => J a' w' ∧ μ a' w' < μ a w) Q) a w) : (Code.scope c).wp P Q a w := by
 refine wp_scope_jumps k J μ hf (first fun a w h => wp_mono (pass a w h) ?_) fun a w h => wp_seq (wp_skip (then_normal (pass a w h)))
 intro e a' w' he
 cases e with
 | goto l => exact ⟨he.1, he.2.1⟩
 | _ => exact he
theorem jump_ret {Q : Exit → Act → World → Prop} {a : Act} {w : World} {k : Nat} {J : Act → World → Prop} (h : Q .ret a w) : Exit.jump k J Q .ret a w := h
theorem jump_goto {Q : Exit → Act → World → Prop} {a : Act} {w : World} {k : Nat} {J : Act → World → Prop} (h : J a w) : Exit.jump k J Q (.goto k) a w := ⟨rfl, h⟩
def Exit.two (J0 J1 : Act → World → Prop) (Q : Exit → Act → World → Prop) : Exit → Act → World → Prop
 | .goto l, a, w => (l = 0 ∧ J0 a w) ∨ (l = 1 ∧ J1 a w)
 | e, a, w => Q e a w
section
variable {P : Program} {a : Act} {w : World} {Q : Exit → Act → World → Prop} {J0 J1 : Act → World → Prop}
theorem two_ret (h : Q .ret a w) : Exit.two J0 J1 Q .ret a w := h
theorem two_goto0 (h : J0 a w) : Exit.two J0 J1 Q (.goto 0) a w := .inl ⟨rfl, h⟩
theorem two_goto1 (h : J1 a w) : Exit.two J0 J1 Q (.goto 1) a w := .inr ⟨rfl, h⟩
theorem then_goto {next : Act → World → Prop} {l : Nat} (h : Q (.goto l) a w) : Exit.then next Q (.goto l) a w := h
theorem label_wp {l : Nat} (h : Q .normal a w) : (Code.label l).wp P Q a w := wp_label h
theorem wp_scope_two {c r0 r1 : Code} (hf0 : findLabel c 0 = some (.seq .skip r0)) (hf1 : findLabel c 1 = some (.seq .skip r1)) (N : Nat) (J : Nat → Act → World → Prop) (J1 : Act → World → Prop)
  (first : (∀ k a w, k ≤ N → J k a w → r0.wp P (Exit.two (fun a w => ∃ k, k ≤ N ∧ J k a w) J1 Q) a w) → c.wp P (Exit.two (fun a w => ∃ k, k ≤ N ∧ J k a w) J1 Q) a w)
  (pass : ∀ k a w, k ≤ N → J k a w → r0.wp P (Exit.two (fun a w => k < N ∧ J (k + 1) a w) J1 Q) a w)
  (last : ∀ a w, J1 a w → r1.wp P (Exit.two (fun _ _ => False) (fun _ _ => False) Q) a w) : (Code.scope c).wp P Q a w := by
 have hp0 := pass
 have pass : ∀ k a w, k ≤ N → J k a w → (Code.seq .skip r0).wp P (Exit.two (fun a w => k < N ∧ J (k + 1) a w) J1 Q) a w := fun k a w hk hJ => wp_seq (wp_skip (then_normal (pass k a w hk hJ)))
 have last : ∀ a w, J1 a w → (Code.seq .skip r1).wp P (Exit.two (fun _ _ => False) (fun _ _ => False) Q) a w := fun a w hJ => wp_seq (wp_skip (then_normal (last a w hJ)))
 intro b k cs
 have hg0 : gotoIn 0 (.inScope c :: k) = some (.code (.seq .skip r0) :: .inScope c :: k) := by simp [gotoIn, hf0]
 have hg1 : gotoIn 1 (.inScope c :: k) = some (.code (.seq .skip r1) :: .inScope c :: k) := by simp [gotoIn, hf1]
 have key1 : ∀ a w, J1 a w → ∃ e a' w', Q e a' w' ∧ Arrives P (lone (b.at a (.code (.seq .skip r1) :: .inScope c :: k)) cs w) b k cs e a' w' := by
  intro a w hJ
  obtain ⟨e, a₁, w₁, hq, harr⟩ := last a w hJ b (.inScope c :: k) cs
  cases e with
  | normal => exact ⟨.normal, a₁, w₁, hq, Steps.trans harr (.one step_inScope)⟩
  | exit id => exact ⟨.exit id, a₁, w₁, hq, fun k' hk => harr k' (by simp [exitTo, hk])⟩
  | goto l' => rcases hq with ⟨_, h⟩ | ⟨_, h⟩ <;> exact h.elim
  | ret => exact ⟨_, a₁, w₁, hq, harr⟩
  | panic ch => exact ⟨_, a₁, w₁, hq, harr⟩
  | outgrown => exact ⟨_, a₁, w₁, hq, harr⟩
 have key0 : ∀ n i a w, N - i = n → i ≤ N → J i a w → ∃ e a' w', Q e a' w' ∧ Arrives P (lone (b.at a (.code (.seq .skip r0) :: .inScope c :: k)) cs w) b k cs e a' w' := by
  intro n
  induction n using Nat.strongRecOn with
  | _ n ih =>
   intro i a w hn hi hJ
   obtain ⟨e, a₁, w₁, hq, harr⟩ := pass i a w hi hJ b (.inScope c :: k) cs
   cases e with
   | normal => exact ⟨.normal, a₁, w₁, hq, Steps.trans harr (.one step_inScope)⟩
   | exit id => exact ⟨.exit id, a₁, w₁, hq, fun k' hk => harr k' (by simp [exitTo, hk])⟩
   | goto l' =>
    rcases hq with ⟨rfl, hlt, hJ'⟩ | ⟨rfl, hJ'⟩
    ·obtain ⟨e₂, a₂, w₂, hq₂, harr₂⟩ := ih (N - (i + 1)) (by omega) (i + 1) a₁ w₁ rfl (by omega) hJ'
     exact ⟨e₂, a₂, w₂, hq₂, .of_steps (harr _ hg0) harr₂⟩
    ·obtain ⟨e₂, a₂, w₂, hq₂, harr₂⟩ := key1 a₁ w₁ hJ'
     exact ⟨e₂, a₂, w₂, hq₂, .of_steps (harr _ hg1) harr₂⟩
   | ret => exact ⟨_, a₁, w₁, hq, harr⟩
   | panic ch => exact ⟨_, a₁, w₁, hq, harr⟩
   | outgrown => exact ⟨_, a₁, w₁, hq, harr⟩
 have hp : ∀ k a w, k ≤ N → J k a w → r0.wp P (Exit.two (fun a w => ∃ k, k ≤ N ∧ J k a w) J1 Q) a w := fun i a w hi hJ => wp_mono (hp0 i a w hi hJ) (by
  intro e a w h
  cases e with
  | goto l =>
   rcases h with ⟨e, h1, h2⟩ | h
   ·exact .inl ⟨e, i + 1, h1, h2⟩
   ·exact .inr h
  | _ => exact h)
 obtain ⟨e, a₁, w₁, hq, harr⟩ := first hp b (.inScope c :: k) cs
 cases e with
 | normal => exact ⟨.normal, a₁, w₁, hq, .head step_scope (Steps.trans harr (.one step_inScope))⟩
 | exit id => exact ⟨.exit id, a₁, w₁, hq, fun k' hk => .head step_scope (harr k' (by simp [exitTo, hk]))⟩
 | goto l' =>
  rcases hq with ⟨rfl, i, hi, hJ'⟩ | ⟨rfl, hJ'⟩
  ·obtain ⟨e₂, a₂, w₂, hq₂, harr₂⟩ := key0 _ i a₁ w₁ rfl hi hJ'
   exact ⟨e₂, a₂, w₂, hq₂, .of_steps (.head step_scope (harr _ hg0)) harr₂⟩
  ·obtain ⟨e₂, a₂, w₂, hq₂, harr₂⟩ := key1 a₁ w₁ hJ'
   exact ⟨e₂, a₂, w₂, hq₂, .of_steps (.head step_scope (harr _ hg1)) harr₂⟩
 | ret => exact ⟨_, a₁, w₁, hq, .of_steps (.one step_scope) harr⟩
 | panic ch => exact ⟨_, a₁, w₁, hq, .of_steps (.one step_scope) harr⟩
 | outgrown => exact ⟨_, a₁, w₁, hq, .of_steps (.one step_scope) harr⟩
end
end
section
open Go.RowKit
theorem RowIs.read {b : Nat} {xs : List UInt8} {v : Value} {w : World} (h : RowIs b xs v w) : BytesAre xs v w := by
 obtain ⟨A, c, rfl, ho⟩ := h
 exact ⟨A, c, rfl, RB.of_ownN ho⟩
theorem results_pair {P : Program} {fn : Func} {p q : Tmp} (h : fn.results = #[.tmp p, .tmp q]) (tmps : Array Value) (u v : Value) {w : World} (hp : tmps.getD p undef = u) (hq : tmps.getD q undef = v) : (results fn tmps).run P w = .ok (.tuple #[u, v]) w := by
 have hp' : tmps[p]?.getD undef = u := by simpa using hp
 have hq' : tmps[q]?.getD undef = v := by simpa using hq
 simp [results, h, hp', hq']
theorem results_three {P : Program} {fn : Func} {p q r : Tmp} (h : fn.results = #[.tmp p, .tmp q, .tmp r]) (tmps : Array Value) (u v x : Value) {w : World} (hp : tmps.getD p undef = u) (hq : tmps.getD q undef = v) (hr : tmps.getD r undef = x) : (results fn tmps).run P w = .ok (.tuple #[u, v, x]) w := by
 have hp' : tmps[p]?.getD undef = u := by simpa using hp
 have hq' : tmps[q]?.getD undef = v := by simpa using hq
 have hr' : tmps[r]?.getD undef = x := by simpa using hr
 simp [results, h, hp', hq', hr']
def TypB (w : World) (g T : Nat) : Prop := ∃ l fr, w.heap[g]? = some (.cells l T fr)
theorem TypB.set {w : World} {g T : Nat} (h : TypB w g T) (a : Addr) (v : Value) : TypB (w.setCell a v) g T := by
 obtain ⟨l, fr, h⟩ := h
 unfold World.setCell TypB
 simp only [Array.getElem?_modify, h]
 split
 ·exact ⟨_, _, rfl⟩
 ·exact ⟨_, _, rfl⟩
theorem TypB.sets {g T : Nat} (g' : Nat) : ∀ (vs : List Value) (o : Nat) {w : World}, TypB w g T → TypB (w.setCells g' o vs) g T
 | [], _, _, h => h
 | v :: vs, o, _, h => TypB.sets g' vs (o + 1) (h.set ⟨g', o, none⟩ v)
theorem TypB.grown {w w' : World} {g T : Nat} {r : Option Nat} (h : TypB w g T) (hg : w.grownBy w' r) (hne : some g ≠ r) : TypB w' g T := by
 obtain ⟨l, fr, h⟩ := h
 exact ⟨l, fr, (hg.block g (Array.getElem?_eq_some_iff.1 h).1 hne).trans h⟩
theorem TypB.below {w w' : World} {g T : Nat} (h : TypB w g T) (hb : Below w.heap.size w w') : TypB w' g T := h.grown (below_grown hb none) (by simp)
theorem TypB.far {w : World} {g T b e s n : Nat} {v : Value} {xs : List Value} (h : TypB w g T) (hO : w.ownsRow b e s v n xs) (he : Nat.beq e T = false) : some g ≠ v.ownBlock := by
 obtain ⟨l, fr, h⟩ := h
 rcases hO.2 with ⟨rfl, _⟩ | ⟨g1, c1, cur1, rfl, _, hg1, _⟩
 ·intro h; cases h
 ·intro h2
  have h2 : g = g1 := by injection h2
  subst h2
  rw [h] at hg1
  injection hg1 with hg1
  injection hg1 with _ hg1 _
  subst hg1
  rw [Nat.beq_refl] at he
  cases he
def BoxQ (base T : Nat) (L : List Value) (v : Value) (w : World) : Prop := ∃ g, v = pz g ∧ base ≤ g ∧ g < w.heap.size ∧ Cells w g L ∧ TypB w g T
theorem BoxQ.below {base T : Nat} {L : List Value} {v : Value} {w w' : World} (hb : Below w.heap.size w w') (h : BoxQ base T L v w) : BoxQ base T L v w' := by
 obtain ⟨g, h1, h2, h3, h4, h5⟩ := h
 exact ⟨g, h1, h2, Nat.lt_of_lt_of_le h3 hb.size, h4.below hb h3, h5.below hb⟩
theorem Has.nk {ops : Array Oper} {rest rest' : List Oper} {o1 o2 : Oper} {a : Act} {w W : World} {B : Nat} {bs : List (Nat × List Value)} {Q : Exit → Act → World → Prop} {n : Nat} {l l' : List (Nat × Value)} (H : Has a n l) (O : Own W B bs w) (k : Nat) {d T m : Nat} {y : Operand} {L L0 : List Value} (h1 : L.all (·.oneCell') = true)
  (hz : ∀ w, (zeroValue T).run Tryz.prog w = .ok (.agg L0.toArray) w) (hm : (Tryz.prog.info? T).map (·.size) = some m) (h : ∀ a' w', Below w.heap.size w w' → Own W B ((w.heap.size, L) :: bs) w' → TypB w' w.heap.size T → Has a' n l' → wpList Tryz.prog ops Q rest' a' w') (ho : o1.op = .alloc T := by rfl) (hd : o1.dst = some d := by rfl) (hn : Nat.blt d n = true := by rfl)
  (hg : o1.guard = none := by rfl) (ho2 : o2.op = .store T (.tmp d) y := by rfl) (hd2 : o2.dst = none := by rfl) (hg2 : o2.guard = none := by rfl) (hy : evL ((d, pz w.heap.size) :: l) y = some (.agg L.toArray) := by rfl) (hl : L.length = m := by rfl) (hl0 : L0.length = m := by rfl)
  (hr : runM n k rest ((d, pz w.heap.size) :: l) = some (rest', l') := by rfl) : wpList Tryz.prog ops Q (o1 :: o2 :: rest) a w := by
 have hb := balloc w (.cells L0.toArray T)
 have hC : Cells (w.alloc (.cells L0.toArray T)) w.heap.size L0 := Cells.of_heap (heap_alloc_new w _)
 have O1 := O.alloc hb (by simp) hC
 have hT1 : TypB (w.alloc (.cells L0.toArray T)) w.heap.size T := ⟨_, _, heap_alloc_new w _⟩
 refine H.go (w' := w.alloc (.cells L0.toArray T)) (gz hg) hd hn (pz w.heap.size) ?_ fun a1 H1 => ?_
 ·unfold execOp
  simp only [ho]
  simp [Instr.alloc, hz, Sem.run_bind, Result.andThen, newVar, newRow, Value.cells, newObj]
  rfl
 have ht : (w.alloc (.cells L0.toArray T)).there w.heap.size 0 L.toArray.size := by
  have := hC.there
  rw [hl0, ← hl] at this
  simpa using this
 have hr2 := run_storeAt_mid (P := Tryz.prog) (w.alloc (.cells L0.toArray T)) w.heap.size 0 T L.toArray ht (by rw [hm, ← hl]; simp) (all_oneCell_toArray fun v hv => List.all_eq_true.1 h1 v hv)
 have hgr := (setCells_only w.heap.size L 0 (w.alloc (.cells L0.toArray T))).2
 refine H1.run0 (gz hg2) hd2 (run_store ho2 (H1.ev (by show (bif Nat.beq d d then _ else _) = _; rw [Nat.beq_refl, cond_true])) (H1.ev hy) hr2) fun a2 H2 => runM_ok k H2 hr fun a3 H3 => h a3 _ (hb.grown hgr hb.size (fun k hk => by injection hk with hk; rw [← hk]; exact Nat.le_refl _)) (O1.store 0 rfl hgr (setCells_only w.heap.size L 0 _).1.size ?_) (hT1.sets _ L 0) H3
 intro j v hv
 have hj := (List.getElem?_eq_some_iff.1 hv).1
 have a := World.rangeAt_setCells_same _ w.heap.size 0 L (by simpa using ht) j v hv
 have b := (World.there_setCells (by simpa using ht) w.heap.size 0 L j hj).2
 rw [Nat.zero_add] at a b
 exact ⟨a, b⟩
theorem Has.app {ops : Array Oper} {rest : List Oper} {o : Oper} {a : Act} {w : World} {Q : Exit → Act → World → Prop} {n : Nat} {l : List (Nat × Value)} (H : Has a n l) {s x : Operand} {t e : TypeId} {d base size bytes k m c : Nat} {z u : Value} {A : Option Addr} {xs ys : List Value} (hown : w.ownsRow base e size u k xs) (hi : (Tryz.prog.info? e).map (fun i => (i.zero, i.size, i.bytes)) = some (some z, size, bytes))
  (hr : Reads w w.heap.size size A m ys) (h1 : ∀ u ∈ ys, u.oneCell' = true) (hn : k + m ≤ maxLen) (hb : (k + m) * bytes ≤ 140737488355328) (hbase : base ≤ w.heap.size) (h : ∀ a' A' c' w', w'.ownsRow base e size (.slice A' (k + m) c') (k + m) (xs ++ ys) → w.grownBy w' u.ownBlock → Has a' n ((d, .slice A' (k + m) c') :: l) → wpList Tryz.prog ops Q rest a' w')
  (ho : o.op = .call { callee := .builtin .append, args := #[s, x], argTypes := #[t, t] } := by rfl) (hd : o.dst = some d := by rfl) (hnn : Nat.blt d n = true := by rfl) (hg : o.guard = none := by rfl) (ht : Tryz.prog.underlying t = some (.slice e) := by kernel_rfl) (hzs : z.cells.size = size := by rfl) (hsz : 0 < size := by decide)
  (hs : evL l s = some u := by rfl) (hx : evL l x = some (.slice A m c) := by rfl) : wpList Tryz.prog ops Q (o :: rest) a w := by
 obtain ⟨A', c', w', hrun, hO, hgr⟩ := run_app (a := a) ho ht hi hzs hsz (H.ev hs) hown (H.ev hx) hr h1 hn hb hbase
 exact H.go (gz hg) hd hnn _ hrun fun a' H' => h a' A' c' w' hO hgr H'
theorem Own.row {W w w' : World} {B : Nat} {bs : List (Nat × List Value)} {b e s n : Nat} {v : Value} {xs : List Value} (O : Own W B bs w) (hO : w.ownsRow b e s v n xs) (hB : B ≤ b) (hg : w.grownBy w' v.ownBlock) (hall : ∀ p ∈ bs, some p.1 ≠ v.ownBlock) : Own W B bs w' :=
 ⟨O.bel.grown hg O.le fun k hk => Nat.le_trans hB (hO.lt k hk).1, Nat.le_trans O.le hg.size, O.nd, fun p hp => ⟨(O.mem p hp).1, Nat.lt_of_lt_of_le (O.mem p hp).2.1 hg.size, (O.mem p hp).2.2.kept hg (O.mem p hp).2.1 (hall p hp)⟩⟩
theorem rb_of_own {w : World} {b n : Nat} {xs : List UInt8} {A : Option Addr} {c : Nat} (hn : xs.length = n) (h : w.ownsRow b 5 1 (.slice A n c) n (xs.map bv)) (_hb : b ≤ w.heap.size) : RB w w.heap.size A xs := by
 subst hn
 obtain ⟨_, _, e, hr⟩ := (RowIs.read (b := b) ⟨A, c, rfl, h⟩ : BytesAre xs (.slice A xs.length c) w)
 injection e with h1 _ _
 subst h1
 exact hr
theorem own_cap {w : World} {b e s n c : Nat} {A : Option Addr} {xs : List Value} (h : w.ownsRow b e s (.slice A n c) n xs) : n ≤ c := by
 obtain ⟨_, _, hve, hcr, _⟩ := own_shape h
 injection hve with _ _ hce
 rw [hce]
 exact hcr
theorem add_nn (a b : Nat) (h : a + b < 1000000) (x y : Operand) (w : World) : (do eqGuard .add 3 x y (iz a) (iz b); binOp .add 3 (iz a) (iz b) : Sem Value).run Tryz.prog w = .ok (iz ((a + b : Nat) : Int)) w := by
 have : IntKind.i64.wrap ((a : Int) + (b : Int)) = ((a + b : Nat) : Int) := by rw [← Int.natCast_add]; exact IntWalk.i64_in _ (by omega)
 simp [go_sem]
 exact this
theorem slice_lo (A : Option Addr) (n c lo : Nat) (h1 : lo ≤ n) (_h3 : n ≤ c) (w : World) : (Instr.sliceAt 31 (.slice A n c) (some (iz lo)) none none).run Tryz.prog w = .ok (.slice (if c = lo then A else A.map (·.add lo)) (n - lo) (c - lo)) w := by
 simp [go_sem]
 omega
theorem run_slice_l {P : Program} {o : Oper} {a : Act} {w : World} {T : Nat} {x lo : Operand} {u v r : Value} (ho : o.op = .slice T x (some lo) none none) (hx : a.eval x = u) (hl : a.eval lo = v) (hq : (Instr.sliceAt T u (some v) none none).run P w = .ok r w) : (execOp a.eval o).run P w = .ok (.value r) w := by
 unfold execOp
 simp only [ho, hx, Option.map_some, Option.map_none, hl, Sem.run_bind, hq, Result.andThen_ok, Sem.run_pure]
theorem slice_lh (A : Option Addr) (n c lo hi : Nat) (h1 : lo ≤ hi) (h2 : hi ≤ n) (h3 : n ≤ c) (w : World) : (Instr.sliceAt 31 (.slice A n c) (some (iz lo)) (some (iz hi)) none).run Tryz.prog w = .ok (.slice (if c = lo then A else A.map (·.add lo)) (hi - lo) (c - lo)) w := by
 simp [go_sem]
 rw [if_pos (by omega), if_pos h1]
theorem slice_h (A : Option Addr) (n c hi : Nat) (h2 : hi ≤ n) (h3 : n ≤ c) (w : World) : (Instr.sliceAt 31 (.slice A n c) none (some (iz hi)) none).run Tryz.prog w = .ok (.slice A hi c) w := by
 simp [go_sem]
 intro h
 omega
theorem index_0 (b o n c : Nat) (hn : 0 < n) (w : World) : (Instr.indexAt 31 (.slice (some ⟨b, o, none⟩) n c) (iz 0)).run Tryz.prog w = .ok (.pointer (some ⟨b, o, none⟩)) w := by
 have h := index_1 31 Tryz.underlying31 (fun _ => by kernel_rfl) b o n c 0 hn w
 have e : ((0 : Nat) : Int) = 0 := rfl
 rw [e, Nat.add_zero] at h
 exact h
theorem index_m (T : TypeId) (hT : Tryz.prog.underlying T = some (.slice (Tryz.prog.elem T))) (m : Nat) (hs : ∀ w, (sizeOf (Tryz.prog.elem T)).run Tryz.prog w = .ok m w) (b o n c k : Nat) (hk : k < n) (w : World) : (Instr.indexAt T (.slice (some ⟨b, o, none⟩) n c) (iz k)).run Tryz.prog w = .ok (.pointer (some ⟨b, o + k * m, none⟩)) w := by
 rw [run_indexAt_slice (h := hT), if_pos ⟨by omega, by omega⟩, hs]
 have e : (Addr.mk b o none).add ((k : Int).toNat * m) = ⟨b, o + k * m, none⟩ := by
  rw [Int.toNat_natCast]
  unfold Addr.add
  by_cases h : k * m = 0
  ·rw [if_pos h, h]; rfl
  ·rw [if_neg h]
 rw [Result.andThen_ok, e]
theorem neq_3 (u v : Int) (b : Bool) (h : (u != v) = b) (x y : Operand) (w : World) : (do eqGuard .neq 3 x y (iz u) (iz v); binOp .neq 3 (iz u) (iz v) : Sem Value).run Tryz.prog w = .ok (.bool b) w := by
 rw [← h]
 simp [go_sem]
theorem eql_iB (u v : Int) (b : Bool) (h : (u == v) = b) (x y : Operand) (w : World) : (do eqGuard .eql 3 x y (iz u) (iz v); binOp .eql 3 (iz u) (iz v) : Sem Value).run Tryz.prog w = .ok (.bool b) w := by
 rw [← h]; exact eql_i u v x y w
section
variable {P : Program} {o : Oper} {a : Act} {w : World}
theorem run_slice {T : Nat} {x lo hi : Operand} {u v y r : Value} (ho : o.op = .slice T x (some lo) (some hi) none) (hx : a.eval x = u) (hl : a.eval lo = v) (hh : a.eval hi = y) (hq : (Instr.sliceAt T u (some v) (some y) none).run P w = .ok r w) : (execOp a.eval o).run P w = .ok (.value r) w := by
 unfold execOp
 simp only [ho, hx, Option.map_some, Option.map_none, hl, hh, Sem.run_bind, hq, Result.andThen_ok, Sem.run_pure]
theorem run_slice_h {T : Nat} {x hi : Operand} {u y r : Value} (ho : o.op = .slice T x none (some hi) none) (hx : a.eval x = u) (hh : a.eval hi = y) (hq : (Instr.sliceAt T u none (some y) none).run P w = .ok r w) : (execOp a.eval o).run P w = .ok (.value r) w := by
 unfold execOp
 simp only [ho, hx, Option.map_some, Option.map_none, hh, Sem.run_bind, hq, Result.andThen_ok, Sem.run_pure]
end
section
variable {ops : Array Oper} {Q : Exit → Act → World → Prop} {n : Nat} {l fixed : List (Nat × Value)} {F : World → Prop} {es : List EntC} {i s : Nat} {o : Oper}
theorem ka {T base : Nat} {L : List Value} (hz : ∀ w, (zeroValue T).run Tryz.prog w = .ok (.agg L.toArray) w) (hb : ∀ w, F w → base ≤ w.heap.size) (ho : ops[i]? = some o := by rfl) (hp : o.op = .alloc T := by rfl) (hd : o.dst = some s := by rfl) (hg : okG ops (fixed ++ knownE (afts ops i) es) o = true := by rfl) : HeavyE ops Q n fixed F es (er i s [] (BoxQ base T L)) :=
 kx (t := er i s [] (BoxQ base T L)) (fun a w _ _ hF => ⟨pz w.heap.size, w.alloc (.cells L.toArray T), by
  unfold execOp
  simp only [hp]
  simp [Instr.alloc, hz, Sem.run_bind, Result.andThen, newVar, newRow, Value.cells, newObj]
  rfl, ⟨w.heap.size, rfl, hb w hF, lt_alloc _ _, Cells.of_heap (heap_alloc_new w _), ⟨_, _, heap_alloc_new w _⟩⟩, balloc _ _⟩) ho hd hg
theorem jh {Wp : World → Prop} {T : Nat} {x hi : Operand} {u y r : Value} (hq : ∀ w, (Instr.sliceAt T u none (some y) none).run Tryz.prog w = .ok r w) (ho : ops[i]? = some o := by rfl) (hp : o.op = .slice T x none (some hi) none := by rfl) (hd : o.dst = some s := by rfl) (hg : okG ops l o = true := by rfl) (hx : evL l x = some u := by rfl) (hy : evL l hi = some y := by rfl) : PureE ops Q n l Wp i s r :=
 fun _ _ w H _ hK => wpOp_go ho (okG_w H hg) s hd r w (run_slice_h hp (H.ev hx) (H.ev hy) (hq w)) hK
theorem js2 {Wp : World → Prop} {T : Nat} {x lo hi : Operand} {u y z r : Value} (hq : ∀ w, (Instr.sliceAt T u (some y) (some z) none).run Tryz.prog w = .ok r w) (ho : ops[i]? = some o := by rfl) (hp : o.op = .slice T x (some lo) (some hi) none := by rfl) (hd : o.dst = some s := by rfl) (hg : okG ops l o = true := by rfl) (hx : evL l x = some u := by rfl) (hy : evL l lo = some y := by rfl) (hz : evL l hi = some z := by rfl) : PureE ops Q n l Wp i s r :=
 fun _ _ w H _ hK => wpOp_go ho (okG_w H hg) s hd r w (run_slice hp (H.ev hx) (H.ev hy) (H.ev hz) (hq w)) hK
end
theorem RowIs.of {b n c : Nat} {A : Option Addr} {xs : List UInt8} {w : World} (hn : xs.length = n) (h : w.ownsRow b 5 1 (.slice A n c) n (xs.map bv)) : RowIs b xs (.slice A n c) w := by
 subst hn
 exact ⟨A, c, rfl, h⟩
theorem St.less {ops : Array Oper} {Q : Exit → Act → World → Prop} {n : Nat} {fixed : List (Nat × Value)} (fixed' : List (Nat × Value)) {es : List EntC} {F : World → Prop} {done : List Nat} (hs : ∀ a, AllEv a fixed → AllEv a fixed') (h : St ops Q n fixed' es F done) : St ops Q n fixed es F done :=
 fun fuel listed a w h1 h2 h3 h4 h5 hI => h fuel listed a w h1 h2 h3 h4 h5 ⟨hI.sz, hI.df, hs a hI.fx, hI.vs, hI.wp⟩
theorem store1_i (g o : Nat) (v : Int) (u : Value) (w : World) (h : w.cell? ⟨g, o, none⟩ = some u) (hf : w.frozen? ⟨g, o, none⟩ = false) : (Instr.storeAt 3 (.pointer (some ⟨g, o, none⟩)) (iz v)).run Tryz.prog w = .ok () (w.setCell ⟨g, o, none⟩ (iz v)) := by
 simp [go_sem, h, hf]
theorem store1_b (g o : Nat) (v : Bool) (u : Value) (w : World) (h : w.cell? ⟨g, o, none⟩ = some u) (hf : w.frozen? ⟨g, o, none⟩ = false) : (Instr.storeAt 4 (.pointer (some ⟨g, o, none⟩)) (.bool v)).run Tryz.prog w = .ok () (w.setCell ⟨g, o, none⟩ (.bool v)) := by
 simp [go_sem, h, hf]
theorem store1_s (g o : Nat) (v : ByteArray) (u : Value) (w : World) (h : w.cell? ⟨g, o, none⟩ = some u) (hf : w.frozen? ⟨g, o, none⟩ = false) : (Instr.storeAt 9 (.pointer (some ⟨g, o, none⟩)) (.string v)).run Tryz.prog w = .ok () (w.setCell ⟨g, o, none⟩ (.string v)) := by
 simp [go_sem, h, hf]
theorem store1_31 (g o n c : Nat) (A : Option Addr) (u : Value) (w : World) (h : w.cell? ⟨g, o, none⟩ = some u) (hf : w.frozen? ⟨g, o, none⟩ = false) : (Instr.storeAt 31 (.pointer (some ⟨g, o, none⟩)) (.slice A n c)).run Tryz.prog w = .ok () (w.setCell ⟨g, o, none⟩ (.slice A n c)) := by
 simp [go_sem, h, hf]
theorem Has.put1 {ops : Array Oper} {rest rest' : List Oper} {o : Oper} {a : Act} {w : World} {Q : Exit → Act → World → Prop} {n : Nat} {l l' : List (Nat × Value)} (H : Has a n l) {g j T : Nat} {x y : Operand} {v : Value} {L : List Value} (hC : Cells w g L) (k : Nat)
  (hst : ∀ u, w.cell? ⟨g, j, none⟩ = some u → w.frozen? ⟨g, j, none⟩ = false → (Instr.storeAt T (.pointer (some ⟨g, j, none⟩)) v).run Tryz.prog w = .ok () (w.setCell ⟨g, j, none⟩ v))
  (h : ∀ a' w', Cells w' g (L.set j v) → w.grownBy w' (some g) → Has a' n l' → wpList Tryz.prog ops Q rest' a' w')
  (ho : o.op = .store T x y := by rfl) (hd : o.dst = none := by rfl) (hg : o.guard = none := by rfl) (hx : evL l x = some (.pointer (some ⟨g, j, none⟩)) := by rfl) (hy : evL l y = some v := by rfl) (hj : Nat.blt j L.length = true := by rfl)
  (hr : runM n k rest l = some (rest', l') := by rfl) : wpList Tryz.prog ops Q (o :: rest) a w := by
 have hj' : j < L.length := by simpa [Nat.blt_eq] using hj
 obtain ⟨c1, c2⟩ := hC j _ (List.getElem?_eq_getElem hj')
 exact H.store (gz hg) ho hd hx hy (hst _ c1 c2) fun a' H' => runM_ok k H' hr fun a'' H'' => h a'' _ (hC.set j v hj') (grown_setCell w g j v) H''
theorem Own.turn {W w w' : World} {B : Nat} {bs : List (Nat × List Value)} (h : Own W B bs w) (i : Nat) {g : Nat} {L L' : List Value} (hi : bs[i]? = some (g, L)) (hg : w.grownBy w' (some g)) (hC : Cells w' g L') : Own W B (bs.set i (g, L')) w' := by
 have hgB := h.ge i hi
 have hglt := h.lt i hi
 have hs := hg.size
 have hli : i < bs.length := (List.getElem?_eq_some_iff.1 hi).1
 have hmap : (bs.set i (g, L')).map (·.1) = bs.map (·.1) := by
  apply List.ext_getElem?
  intro j
  rw [List.getElem?_map, List.getElem?_map, List.getElem?_set]
  by_cases e : i = j
  ·subst e
   simp only [if_true, hli, hi, Option.map_some]
  ·rw [if_neg e]
 refine ⟨h.bel.grown hg h.le (fun k hk => by injection hk with hk; rw [← hk]; exact hgB), Nat.le_trans h.le hs, by rw [hmap]; exact h.nd, fun p hp => ?_⟩
 obtain ⟨j, hj⟩ := List.getElem?_of_mem hp
 rw [List.getElem?_set] at hj
 by_cases e : i = j
 ·rw [if_pos e, if_pos hli] at hj
  injection hj with hj
  subst hj
  exact ⟨hgB, Nat.lt_of_lt_of_le hglt hs, hC⟩
 ·rw [if_neg e] at hj
  have hm := h.mem p (List.mem_of_getElem? hj)
  refine ⟨hm.1, Nat.lt_of_lt_of_le hm.2.1 hs, hm.2.2.kept hg hm.2.1 (fun e2 => e ?_)⟩
  injection e2 with e2
  have h1 : (bs.map (·.1))[i]? = some g := by rw [List.getElem?_map, hi]; rfl
  have h2 : (bs.map (·.1))[j]? = some g := by rw [List.getElem?_map, hj, ← e2]; rfl
  exact nodup_get h.nd h1 h2
theorem results_two {P : Program} {fn : Func} {p q : Tmp} {T : TypeId} (h : fn.results = #[.cell p T, .tmp q]) (tmps : Array Value) {w : World} {g : Nat} {l : List Value} (d : TypeDesc) (v : Value) (hp : tmps.getD p undef = pz g) (hq : tmps.getD q undef = v) (hC : Cells w g l)
  (hu : P.underlying T = some d) (hd : d.isRow = true) (n : Nat) (hi : (P.info? T).map (·.size) = some n) (hl : l.length = n) : (results fn tmps).run P w = .ok (.tuple #[.agg l.toArray, v]) w := by
 rw [← hl] at hi
 have hp' : tmps[p]?.getD undef = pz g := by simpa using hp
 have hq' : tmps[q]?.getD undef = v := by simpa using hq
 simp [results, h, hp', hq', asAddr, run_loadVar_mid w g 0 T l d hC.range hu hd hi]
theorem loadT {T m g : Nat} {w : World} {L : List Value} {d : TypeDesc} (hC : Cells w g L) (hu : Tryz.prog.underlying T = some d) (hd : d.isRow = true) (hi : (Tryz.prog.info? T).map (·.size) = some m) (hl : L.length = m) : (Instr.loadAt T (pz g)).run Tryz.prog w = .ok (.agg L.toArray) w := by
 rw [← hl] at hi
 have := run_loadVar_mid w g 0 T L _ hC.range hu hd hi
 simp only [Instr.loadAt, Instr.sureAddr, Sem.run_bind, Sem.run_pure, Result.andThen_ok, this]
section
variable {ops : Array Oper} {Q : Exit → Act → World → Prop} {n : Nat} {l fixed : List (Nat × Value)} {F : World → Prop} {es : List EntC} {i s : Nat} {o : Oper}
theorem js1 {Wp : World → Prop} {T : Nat} {x lo : Operand} {u y r : Value} (hq : ∀ w, (Instr.sliceAt T u (some y) none none).run Tryz.prog w = .ok r w) (ho : ops[i]? = some o := by rfl) (hp : o.op = .slice T x (some lo) none none := by rfl) (hd : o.dst = some s := by rfl) (hg : okG ops l o = true := by rfl) (hx : evL l x = some u := by rfl) (hy : evL l lo = some y := by rfl) : PureE ops Q n l Wp i s r :=
 fun _ _ w H _ hK => wpOp_go ho (okG_w H hg) s hd r w (run_slice_l hp (H.ev hx) (H.ev hy) (hq w)) hK
end
theorem eql_u (u v : Int) (b : Bool) (h : (u == v) = b) (x y : Operand) (w : World) : (do eqGuard .eql 5 x y (.int .u8 u) (.int .u8 v); binOp .eql 5 (.int .u8 u) (.int .u8 v) : Sem Value).run Tryz.prog w = .ok (.bool b) w := by
 rw [← h]
 simp [go_sem]
theorem run_minI {o : Oper} {a : Act} {w : World} {x y : Operand} {u v : Int} (ho : o.op = .call { callee := .builtin .min, args := #[x, y], argTypes := #[3, 3] }) (hx : a.eval x = iz u) (hy : a.eval y = iz v) : (execOp a.eval o).run Tryz.prog w = .ok (.value (iz (min u v))) w := by
 unfold execOp
 simp only [ho, resolve, invoke, builtin, Sem.run_bind, Sem.run_pure, Result.andThen_ok, List.map_toArray, List.map_cons, List.map_nil, hx, hy]
 rw [Lib.run_min_ints]
 rfl
theorem run_maxI {o : Oper} {a : Act} {w : World} {x y : Operand} {u v : Int} (ho : o.op = .call { callee := .builtin .max, args := #[x, y], argTypes := #[3, 3] }) (hx : a.eval x = iz u) (hy : a.eval y = iz v) : (execOp a.eval o).run Tryz.prog w = .ok (.value (iz (max u v))) w := by
 unfold execOp
 simp only [ho, resolve, invoke, builtin, Sem.run_bind, Sem.run_pure, Result.andThen_ok, List.map_toArray, List.map_cons, List.map_nil, hx, hy]
 rw [Lib.run_max_ints]
 rfl
theorem Own.perm {W w : World} {B : Nat} {bs bs' : List (Nat × List Value)} (h : Own W B bs w) (hp : bs.Perm bs') : Own W B bs' w :=
 ⟨h.bel, h.le, (hp.map _).nodup_iff.1 h.nd, fun p hm => h.mem p (hp.mem_iff.2 hm)⟩
theorem Own.sub {W w : World} {B : Nat} {bs bs' : List (Nat × List Value)} (h : Own W B bs w) (hp : bs'.Sublist bs) : Own W B bs' w :=
 ⟨h.bel, h.le, (hp.map _).nodup h.nd, fun p hm => h.mem p (hp.subset hm)⟩
theorem Own.addq {W w w' : World} {B : Nat} {bs : List (Nat × List Value)} (h : Own W B bs w) {q : Nat} {L : List Value} (hg : w.grownBy w' (some q)) (hB : B ≤ q) (hlt : q < w.heap.size) (hne : ∀ p ∈ bs, p.1 ≠ q) (hC : Cells w' q L) : Own W B ((q, L) :: bs) w' := by
 refine ⟨h.bel.grown hg h.le (fun k hk => by injection hk with hk; omega), Nat.le_trans h.le hg.size, ?_, fun p hp => ?_⟩
 ·rw [List.map_cons, List.nodup_cons]
  exact ⟨fun hm => by obtain ⟨p, hp, e⟩ := List.mem_map.1 hm; exact hne p hp e, h.nd⟩
 ·rcases List.mem_cons.1 hp with rfl | hp
  ·exact ⟨hB, Nat.lt_of_lt_of_le hlt hg.size, hC⟩
  ·have hm := h.mem p hp
   exact ⟨hm.1, Nat.lt_of_lt_of_le hm.2.1 hg.size, hm.2.2.kept hg hm.2.1 (by intro e; injection e with e; exact hne p hp e)⟩
theorem own_lit (w : World) (l : List Value) (e : TypeId) (size n : Nat) (hl : l.length = n * size) (hn : n ≤ maxLen) : (w.alloc (.cells l.toArray e)).ownsRow w.heap.size e size (.slice (some ⟨w.heap.size, 0, none⟩) n n) n l :=
 ⟨hl, .inr ⟨w.heap.size, n, l.toArray, rfl, Nat.le_refl _, heap_alloc_new w _, Nat.le_refl _, hn, by simp [hl], by simp [← hl]⟩⟩
end
section
open Go.RowKit
theorem spanIs (n : Int) (w : World) : Calls Tryz.prog 47 #[.int .i64 n] w fun e w' => e = .returned (.bool (inR n 4294967295)) ∧ w = w' := by
 by_cases h1 : 0 ≤ n
 ·by_cases h2 : n < 4294967296
  ·have H := Lib.hid (inR_iff.2 ⟨h1, show n ≤ 4294967295 by omega⟩)
   go_enter Tryz.func47, Tryz.ntmps47
   go_wp2
   go_ret
   exact ⟨by rw [H.out]; rfl, rfl⟩
  ·have H := Lib.hid (Bool.eq_false_iff.2 fun h => h2 (by have := (inR_iff.1 h).2; omega) : inR n 4294967295 = false)
   go_enter Tryz.func47, Tryz.ntmps47
   go_wp2
   go_ret
   exact ⟨by rw [H.out]; rfl, rfl⟩
 ·have H := Lib.hid (Bool.eq_false_iff.2 fun h => h1 (inR_iff.1 h).1 : inR n 4294967295 = false)
  go_enter Tryz.func47, Tryz.ntmps47
  go_wp2
  go_ret
  exact ⟨by rw [H.out]; rfl, rfl⟩
theorem and_r (a : Nat) (h : a < 9223372036854775808) (x y : Operand) (w : World) : (do eqGuard .and 3 x y (.int .i64 (a : Int)) (.int .i64 4294967295); binOp .and 3 (.int .i64 (a : Int)) (.int .i64 4294967295) : Sem Value).run Tryz.prog w = .ok (.int .i64 ((a % 4294967296 : Nat) : Int)) w := by
 have h1 := i64_and_nat a 4294967295 h (by decide)
 have h2 : a &&& 4294967295 = a % 4294967296 := Nat.and_two_pow_sub_one_eq_mod a 32
 rw [h2] at h1
 simp [go_sem]
 exact h1
theorem add_r (a b : Nat) (h : a + b < 9223372036854775808) (x y : Operand) (w : World) : (do eqGuard .add 3 x y (.int .i64 (a : Int)) (.int .i64 (b : Int)); binOp .add 3 (.int .i64 (a : Int)) (.int .i64 (b : Int)) : Sem Value).run Tryz.prog w = .ok (.int .i64 ((a + b : Nat) : Int)) w := by
 have : IntKind.i64.wrap ((a : Int) + (b : Int)) = ((a + b : Nat) : Int) := by rw [← Int.natCast_add]; exact IntWalk.i64_in _ (by omega)
 simp [go_sem]
 exact this
def spAdd (s n : Nat) : Nat := (s % 4294967296 + n % 4294967296) % 4294967296
theorem spAdd_lt (s n : Nat) : spAdd s n < 4294967296 := Nat.mod_lt _ (by decide)
theorem spanAdd (s n : Nat) (hs : s < 9223372036854775808) (hn : n < 9223372036854775808) (w : World) : Calls Tryz.prog 48 #[.int .i64 (s : Int), .int .i64 (n : Int)] w fun e w' => e = .returned (.int .i64 ((spAdd s n : Nat) : Int)) ∧ w = w' := by
 go_enter Tryz.func48, Tryz.ntmps48
 refine Has.start 11 [(0, .int .i64 (s : Int)), (1, .int .i64 (n : Int))] rfl rfl ⟨rfl, rfl, trivial⟩ ?_
 intro a0 H0
 refine H0.rg 1 fun a1 H1 => nt ?_
 refine H1.rg 1 fun a H => ?_
 refine H.bn 1 (and_r s hs _ _ _) fun a H => ?_
 refine H.bn 0 (and_r n hn _ _ _) fun a H => ?_
 refine H.bn 0 (add_r (s % 4294967296) (n % 4294967296) (by omega) _ _ _) fun a H => ?_
 refine H.bn 1 (and_r (s % 4294967296 + n % 4294967296) (by omega) _ _ _) fun a H => nt (wp_ret ?_)
 repeat (first | (with_reducible refine block_ret ?_) | (with_reducible refine then_ret ?_))
 exact bodyPost_ret (results_tmp rfl _ _ _) H.df ⟨congrArg Ending.returned (H.at_ 4 _ rfl), rfl⟩
end
section
open Go.RowKit
def spV (s n : Nat) : Value := .complex .f64 (fl s) (fl n)
theorem and_z (z : Int) : bits .and .i64 z 4294967295 = ((z % 4294967296).toNat : Int) := by
 show IntKind.i64.wrap ((BitVec.ofInt 64 z &&& BitVec.ofInt 64 4294967295).toNat : Int) = _
 have h1 : (BitVec.ofInt 64 4294967295).toNat = 4294967295 := by decide
 have h2 : (BitVec.ofInt 64 z).toNat = (z % 18446744073709551616).toNat := by rw [BitVec.toNat_ofInt]; rfl
 rw [BitVec.toNat_and, h1, h2, show (4294967295 : Nat) = 2 ^ 32 - 1 from rfl, Nat.and_two_pow_sub_one_eq_mod]
 have h3 : ((z % 18446744073709551616).toNat % 2 ^ 32 : Nat) = (z % 4294967296).toNat := by omega
 rw [h3]
 exact IntWalk.i64_in _ (by omega)
theorem and_sp (z : Int) (d : Nat) (hd : (z % 4294967296).toNat = d) (x y : Operand) (w : World) : (do eqGuard .and 3 x y (.int .i64 z) (.int .i64 4294967295); binOp .and 3 (.int .i64 z) (.int .i64 4294967295) : Sem Value).run Tryz.prog w = .ok (.int .i64 (d : Int)) w := by
 have h := and_z z
 rw [hd] at h
 simp [go_sem]
 exact h
theorem sub_ii (u v : Int) (h1 : -9223372036854775808 ≤ u - v) (h2 : u - v ≤ 9223372036854775807) (x y : Operand) (w : World) : (do eqGuard .sub 3 x y (.int .i64 u) (.int .i64 v); binOp .sub 3 (.int .i64 u) (.int .i64 v) : Sem Value).run Tryz.prog w = .ok (.int .i64 (u - v)) w := by
 simp [go_sem]
 exact IntWalk.i64_in _ (by omega)
theorem add_ii (u v : Int) (h1 : -9223372036854775808 ≤ u + v) (h2 : u + v ≤ 9223372036854775807) (x y : Operand) (w : World) : (do eqGuard .add 3 x y (.int .i64 u) (.int .i64 v); binOp .add 3 (.int .i64 u) (.int .i64 v) : Sem Value).run Tryz.prog w = .ok (.int .i64 (u + v)) w := by
 simp [go_sem]
 exact IntWalk.i64_in _ (by omega)
def spDiff (a b : Nat) : Int := if (((a % 4294967296 : Nat) : Int) - ((b % 4294967296 : Nat) : Int)) % 4294967296 ≥ 2147483648 then (((a % 4294967296 : Nat) : Int) - ((b % 4294967296 : Nat) : Int)) % 4294967296 - 4294967296 else (((a % 4294967296 : Nat) : Int) - ((b % 4294967296 : Nat) : Int)) % 4294967296
theorem spDiff_le (a b : Nat) : -2147483648 ≤ spDiff a b ∧ spDiff a b < 2147483648 := by
 unfold spDiff
 split <;> omega
theorem spanDiff (u v : Nat) (ha : u < 9223372036854775808) (hb : v < 9223372036854775808) (w : World) : Calls Tryz.prog 146 #[.int .i64 (u : Int), .int .i64 (v : Int)] w fun e w' => e = .returned (.int .i64 (spDiff u v)) ∧ w = w' := by
 go_enter Tryz.func146, Tryz.ntmps146
 refine Has.start 17 [(0, .int .i64 (u : Int)), (1, .int .i64 (v : Int))] rfl rfl ⟨rfl, rfl, trivial⟩ ?_
 intro a0 H0
 obtain ⟨d, hd⟩ : ∃ d : Nat, (d : Int) = (((u % 4294967296 : Nat) : Int) - ((v % 4294967296 : Nat) : Int)) % 4294967296 := ⟨((((u % 4294967296 : Nat) : Int) - ((v % 4294967296 : Nat) : Int)) % 4294967296).toNat, by omega⟩
 have hdl : d < 4294967296 := by omega
 refine H0.rg 1 fun a1 H1 => nt ?_
 refine H1.rg 1 fun a H => ?_
 refine H.bn 1 (and_r u ha _ _ _) fun a H => ?_
 refine H.bn 0 (and_r v hb _ _ _) fun a H => ?_
 refine H.bn 0 (sub_ii ((u % 4294967296 : Nat) : Int) ((v % 4294967296 : Nat) : Int) (by omega) (by omega) _ _ _) fun a H => ?_
 refine H.bn 1 (and_sp (((u % 4294967296 : Nat) : Int) - ((v % 4294967296 : Nat) : Int)) d (by omega) _ _ _) fun a H => nt ?_
 replace H := H.kp [5]
 have hsp : spDiff u v = if (d : Int) ≥ 2147483648 then (d : Int) - 4294967296 else (d : Int) := by
  unfold spDiff
  rw [← hd]
 refine wp_seq_join (fun a' w' => w = w' ∧ Has a' 17 [(5, .int .i64 (spDiff u v))]) ?_ ?_
 rotate_left
 ·rintro a' w' ⟨rfl, H⟩
  refine H.rg 2 fun a H => nt (wp_ret ?_)
  repeat (first | (with_reducible refine block_ret ?_) | (with_reducible refine then_ret ?_))
  exact bodyPost_ret (results_tmp rfl _ _ _) H.df ⟨congrArg Ending.returned (H.at_ 4 _ rfl), rfl⟩
 refine H.rg 1 fun a' H => ?_
 by_cases hc : (2147483648 : Int) ≤ (d : Int)
 ·refine H.bb 0 rfl rfl rfl rfl rfl rfl (geq_i _ _ true (by rw [decide_eq_true_iff]; exact hc) _ _ _) rfl fun a' H => nt (H.condT rfl ?_)
  refine H.rg 1 fun a' H => ?_
  refine H.bn 1 (sub_ii (d : Int) 4294967296 (by omega) (by omega) _ _ _) fun a' H => wpList_nil ⟨rfl, ?_⟩
  rw [hsp, if_pos hc]
  exact H.keep ⟨rfl, trivial⟩
 ·refine H.bb 0 rfl rfl rfl rfl rfl rfl (geq_i _ _ false (by rw [decide_eq_false_iff_not]; exact hc) _ _ _) rfl fun a' H => nt (H.condF rfl (skip_wp ⟨rfl, ?_⟩))
  rw [hsp, if_neg hc]
  exact H.keep ⟨rfl, trivial⟩
theorem spanOf (s n : Nat) (w : World) : Calls Tryz.prog 118 #[.int .i64 (s : Int), .int .i64 (n : Int)] w fun e w' => e = .returned (spV s n) ∧ w = w' := by
 go_enter Tryz.func118, Tryz.ntmps118
 go_wp2
 go_ret
 exact ⟨rfl, rfl⟩
theorem neq_e (u v : Int) (b : Bool) (h : (u != v) = b) (x y : Operand) (w : World) : (do eqGuard .neq 27 x y (.int .i64 u) (.int .i64 v); binOp .neq 27 (.int .i64 u) (.int .i64 v) : Sem Value).run Tryz.prog w = .ok (.bool b) w := by
 subst h
 simp [go_sem]
theorem order_i (u v : Nat) (hu : u < 9007199254740992) (hv : v < 9007199254740992) : FloatKind.f64.format.order (fl u) (fl v) = some (compare (u : Int) (v : Int)) := order_fl u v hu hv
theorem cmp_lt {u v : Nat} (h : u < v) : compare (u : Int) (v : Int) = .lt := by
 show compareOfLessAndEq _ _ = _
 unfold compareOfLessAndEq
 rw [if_pos (by omega)]
theorem cmp_eq (u : Nat) : compare (u : Int) (u : Int) = .eq := by
 show compareOfLessAndEq _ _ = _
 unfold compareOfLessAndEq
 rw [if_neg (by omega), if_pos rfl]
theorem cmp_gt {u v : Nat} (h : v < u) : compare (u : Int) (v : Int) = .gt := by
 show compareOfLessAndEq _ _ = _
 unfold compareOfLessAndEq
 rw [if_neg (by omega), if_neg (by omega)]
theorem geq_f (u : Nat) (hu : u < 9007199254740992) (x y : Operand) (w : World) : (do eqGuard .geq 193 x y (.float .f64 (fl u)) (.float .f64 0); binOp .geq 193 (.float .f64 (fl u)) (.float .f64 0) : Sem Value).run Tryz.prog w = .ok (.bool true) w := by
 have h := order_i u 0 hu (by decide)
 rw [fl_zero] at h
 have hb : (FloatKind.f64.format.order (fl u) 0 == some .gt || FloatKind.f64.format.order (fl u) 0 == some .eq) = true := by
  rw [h]
  rcases Nat.eq_zero_or_pos u with rfl | hp
  ·rw [cmp_eq]; rfl
  ·rw [cmp_gt hp]; rfl
 simp [go_sem]
 simpa using hb
theorem leq_f (u v : Nat) (b : Bool) (hb : decide (u ≤ v) = b) (hu : u < 9007199254740992) (hv : v < 9007199254740992) (x y : Operand) (w : World) : (do eqGuard .leq 193 x y (.float .f64 (fl u)) (.float .f64 (fl v)); binOp .leq 193 (.float .f64 (fl u)) (.float .f64 (fl v)) : Sem Value).run Tryz.prog w = .ok (.bool b) w := by
 have h := order_i u v hu hv
 have hb : (FloatKind.f64.format.order (fl u) (fl v) == some .lt || FloatKind.f64.format.order (fl u) (fl v) == some .eq) = b := by
  rw [h, ← hb]
  rcases Nat.lt_trichotomy u v with hp | rfl | hp
  ·rw [cmp_lt hp, decide_eq_true (Nat.le_of_lt hp)]; rfl
  ·rw [cmp_eq, decide_eq_true (Nat.le_refl _)]; rfl
  ·rw [cmp_gt hp, decide_eq_false (by omega)]; rfl
 simp [go_sem]
 exact hb
theorem eql_f (u : Nat) (hu : u < 9007199254740992) (x y : Operand) (w : World) : (do eqGuard .eql 193 x y (.float .f64 (fl u)) (.float .f64 (fl u)); binOp .eql 193 (.float .f64 (fl u)) (.float .f64 (fl u)) : Sem Value).run Tryz.prog w = .ok (.bool true) w := by
 have h := order_i u u hu hu
 rw [cmp_eq] at h
 simp [go_sem, h]
theorem conv_f (u : Nat) (w : World) : (convert 3 193 (.int .i64 (u : Int))).run Tryz.prog w = .ok (.float .f64 (fl u)) w :=
 run_convert_int_float (P := Tryz.prog) w 3 193 .i64 .f64 (u : Int) (by kernel_rfl) (by kernel_rfl)
theorem conv_fi (u : Nat) (hu : u < 9007199254740992) (w : World) : (convert 193 3 (.float .f64 (fl u))).run Tryz.prog w = .ok (.int .i64 (u : Int)) w :=
 run_convert_float_int (P := Tryz.prog) w 193 3 .f64 .i64 (fl u) (u : Int) (by kernel_rfl) (by kernel_rfl) (fl_int u hu)
theorem spanWhole (n m : Nat) (hn : n < 9007199254740992) (hm : m < 9007199254740992) (w : World) : Calls Tryz.prog 138 #[.float .f64 (fl n), .int .i64 (m : Int)] w fun e w' => e = .returned (if n ≤ m then .tuple #[.int .i64 (n : Int), .bool true] else .tuple #[.int .i64 0, .bool false]) ∧ w = w' := by
 go_enter Tryz.func138, Tryz.ntmps138
 refine Has.start 22 [(0, .float .f64 (fl n)), (1, .int .i64 (m : Int))] rfl rfl ⟨rfl, rfl, trivial⟩ ?_
 intro a0 H0
 refine H0.rg 2 fun a1 H1 => nt ?_
 obtain ⟨b, hb⟩ : ∃ b, decide (n ≤ m) = b := ⟨_, rfl⟩
 refine H1.rg 1 fun a H => ?_
 refine H.bn 1 (geq_f n hn _ _ _) fun a H => ?_
 refine H.move (H.wt rfl rfl rfl) (.inl rfl) rfl rfl rfl fun a H => ?_
 refine H.move (H.wt rfl rfl rfl) (.inl rfl) rfl rfl rfl fun a H => ?_
 refine H.conv (H.wt rfl rfl rfl) rfl rfl rfl rfl (conv_f m _) fun a H => ?_
 refine H.bin (H.wt rfl rfl rfl) rfl rfl rfl rfl rfl (leq_f n m b hb hn hm _ _ _) fun a H => ?_
 refine H.pick gz rfl rfl rfl rfl rfl fun a H => ?_
 refine H.un gz rfl rfl rfl rfl (run_not b _) fun a H => nt (H.cond (t := !b) rfl ?_)
 cases b with
 | false =>
  have h : ¬ n ≤ m := of_decide_eq_false hb
  rw [if_neg h]
  refine H.rg 2 fun a H => nt (wp_ret ?_)
  repeat (first | (with_reducible refine block_ret ?_) | (with_reducible refine then_ret ?_))
  exact bodyPost_ret (results_pair rfl _ _ _ (H.at_ 4 _ rfl) (H.at_ 5 _ rfl)) H.df ⟨rfl, rfl⟩
 | true =>
  have h : n ≤ m := of_decide_eq_true hb
  rw [if_pos h]
  refine skip_wp (then_normal ?_)
  replace H := H.kp [0]
  refine H.rg 1 fun a H => ?_
  refine H.cv 1 (conv_fi n hn _) fun a H => nt ?_
  refine H.rg 2 fun a H => ?_
  refine H.cv 1 (conv_f n _) fun a H => ?_
  refine H.bn 2 (eql_f n hn _ _ _) fun a H => nt (wp_ret ?_)
  repeat (first | (with_reducible refine block_ret ?_) | (with_reducible refine then_ret ?_))
  exact bodyPost_ret (results_pair rfl _ _ _ (H.at_ 4 _ rfl) (H.at_ 5 _ rfl)) H.df ⟨rfl, rfl⟩
theorem spanParts (s n : Nat) (hs : s ≤ 4294967295) (hn : n ≤ 65536) (w : World) : Calls Tryz.prog 119 #[spV s n] w fun e w' => e = .returned (.tuple #[.int .i64 (s : Int), .int .i64 (n : Int), .int .i64 0]) ∧ w = w' := by
 go_enter Tryz.func119, Tryz.ntmps119
 refine Has.start 27 [(0, spV s n)] rfl rfl ⟨rfl, trivial⟩ ?_
 intro a0 H0
 have k1 := spanWhole s 4294967295 (by omega) (by decide) w
 have k2 := spanWhole n 65536 (by omega) (by decide) w
 rw [if_pos hs] at k1
 rw [if_pos hn] at k2
 refine H0.rg 3 fun a1 H1 => nt ?_
 refine H1.rg 1 fun a H => ?_
 refine H.any (w' := w) gz rfl rfl (.float .f64 (fl s)) (by intro cs b h; cases h) (by kernel_rfl) (by kernel_rfl) fun a H => ?_
 refine H.cq 1 k1 fun a H => ?_
 refine H.ex (r := .int .i64 (s : Int)) 0 fun a H => ?_
 refine H.ex (r := .bool true) 2 fun a H => nt ?_
 refine H.rg 1 fun a H => ?_
 refine H.any (w' := w) gz rfl rfl (.float .f64 (fl n)) (by intro cs b h; cases h) (by kernel_rfl) (by kernel_rfl) fun a H => ?_
 refine H.cq 1 k2 fun a H => ?_
 refine H.ex (r := .int .i64 (n : Int)) 0 fun a H => ?_
 refine H.ex (r := .bool true) 2 fun a H => nt ?_
 replace H := H.kp [2, 3, 5, 6]
 refine H.rg 1 fun a H => ?_
 refine H.un gz rfl rfl rfl rfl (run_not true _) fun a H => ?_
 refine H.ms 1 fun a H => ?_
 refine H.move (H.wt rfl rfl rfl) (.inl rfl) rfl rfl rfl fun a H => ?_
 refine H.un (H.wt rfl rfl rfl) rfl rfl rfl rfl (run_not true _) fun a H => ?_
 refine H.pick gz rfl rfl rfl rfl rfl fun a H => nt (H.condF rfl (skip_wp (then_normal ?_)))
 refine H.rg 5 fun a H => nt (wp_ret ?_)
 repeat (first | (with_reducible refine block_ret ?_) | (with_reducible refine then_ret ?_))
 exact bodyPost_ret (results_three rfl _ _ _ _ (H.at_ 2 _ rfl) (H.at_ 3 _ rfl) (H.at_ 4 _ rfl)) H.df ⟨rfl, rfl⟩
theorem spanOf_yes (s n : Nat) (hs : s ≤ 4294967295) (hn : n ≤ 65536) (w : World) : Calls Tryz.prog 88 #[.int .i64 (s : Int), .int .i64 (n : Int)] w fun e w' => e = .returned (.tuple #[spV s n, .int .i64 0]) ∧ w = w' := by
 have h1 : inR (s : Int) 4294967295 = true := inR_iff.2 ⟨by omega, by omega⟩
 go_enter Tryz.func88, Tryz.ntmps88
 refine Has.start 20 [(0, .int .i64 (s : Int)), (1, .int .i64 (n : Int))] rfl rfl ⟨rfl, rfl, trivial⟩ ?_
 intro a0 H0
 refine H0.rg 2 fun a1 H1 => nt ?_
 refine H1.rg 1 fun a H => ?_
 refine H.cq 0 (h1 ▸ spanIs (s : Int) w) fun a H => ?_
 refine H.un gz rfl rfl rfl rfl (run_not true _) fun a H => ?_
 refine H.ms 1 fun a H => ?_
 refine H.move (H.wt rfl rfl rfl) (.inl rfl) rfl rfl rfl fun a H => ?_
 refine H.bin (H.wt rfl rfl rfl) rfl rfl rfl rfl rfl (lss_i (n : Int) 0 false (decide_eq_false (by omega)) _ _ _) fun a H => ?_
 refine H.pick gz rfl rfl rfl rfl rfl fun a H => ?_
 refine H.ms 1 fun a H => ?_
 refine H.move (H.wt rfl rfl rfl) (.inl rfl) rfl rfl rfl fun a H => ?_
 refine H.bin (H.wt rfl rfl rfl) rfl rfl rfl rfl rfl (gtr_i (n : Int) 65536 false (decide_eq_false (by omega)) _ _ _) fun a H => ?_
 refine H.pick gz rfl rfl rfl rfl rfl fun a H => nt (H.condF rfl (skip_wp (then_normal ?_)))
 refine H.rg 2 fun a H => ?_
 refine H.cq 2 (spanOf s n w) fun a H => nt (wp_ret ?_)
 repeat (first | (with_reducible refine block_ret ?_) | (with_reducible refine then_ret ?_))
 exact bodyPost_ret (results_pair rfl _ _ _ (H.at_ 4 _ rfl) (H.at_ 5 _ rfl)) H.df ⟨rfl, rfl⟩
end
section
open Go.RowKit
def spMeet (s n b k : Nat) : Nat × Nat :=
 if max (spDiff s b) 0 ≥ min (spDiff s b + (n : Int)) (k : Int) then (0, 0) else (spAdd b (max (spDiff s b) 0).toNat, (min (spDiff s b + (n : Int)) (k : Int) - max (spDiff s b) 0).toNat)
theorem spMeet_le (s n b k : Nat) (hk : k ≤ 65536) : (spMeet s n b k).1 ≤ 4294967295 ∧ (spMeet s n b k).2 ≤ 65536 := by
 unfold spMeet
 split
 ·exact ⟨by decide, by decide⟩
 ·have := spAdd_lt b (max (spDiff s b) 0).toNat
  constructor
  ·show spAdd b _ ≤ _; omega
  ·show (min _ _ - _ : Int).toNat ≤ _; omega
theorem spanMeet (s n b k : Nat) (hs : s ≤ 4294967295) (hn : n ≤ 65536) (hb : b ≤ 4294967295) (hk : k ≤ 65536) (w : World) : Calls Tryz.prog 145 #[spV s n, spV b k] w fun e w' => e = .returned (.tuple #[spV (spMeet s n b k).1 (spMeet s n b k).2, iz 0]) ∧ w = w' := by
 go_enter Tryz.func145, Tryz.ntmps145
 refine Has.start 53 [(0, spV s n), (1, spV b k)] rfl rfl ⟨rfl, rfl, trivial⟩ ?_
 intro a0 H0
 refine H0.rg 2 fun a1 H1 => nt ?_
 refine H1.rg 1 fun a H => ?_
 refine H.cq 1 (spanParts s n hs hn w) fun a H => ?_
 refine H.ex (r := iz s) 0 fun a H => ?_
 refine H.ex (r := iz n) 0 fun a H => ?_
 refine H.ex (r := iz 0) 3 fun a H => nt ?_
 replace H := H.kp [1, 6, 7, 8]
 refine H.rg 1 fun a H => ?_
 refine H.cq 1 (spanParts b k hb hk w) fun a H => ?_
 refine H.ex (r := iz b) 0 fun a H => ?_
 refine H.ex (r := iz k) 0 fun a H => ?_
 refine H.ex (r := iz 0) 3 fun a H => nt ?_
 replace H := H.kp [6, 7, 8, 9, 10, 11]
 refine H.rg 1 fun a H => ?_
 refine H.bn 1 (neq_e 0 0 false rfl _ _ _) fun a H => ?_
 refine H.move (H.wt rfl rfl rfl) (.inl rfl) rfl rfl rfl fun a H => ?_
 refine H.bin (H.wt rfl rfl rfl) rfl rfl rfl rfl rfl (neq_e 0 0 false rfl _ _ _) fun a H => ?_
 refine H.pick gz rfl rfl rfl rfl rfl fun a H => nt (H.condF rfl (skip_wp (then_normal ?_)))
 have hd := spDiff_le s b
 obtain ⟨d, hdd⟩ : ∃ d, spDiff s b = d := ⟨_, rfl⟩
 have KD := spanDiff s b (by omega) (by omega) w
 have hm : spMeet s n b k = if max d 0 ≥ min (d + (n : Int)) (k : Int) then (0, 0) else (spAdd b (max d 0).toNat, (min (d + (n : Int)) (k : Int) - max d 0).toNat) := by unfold spMeet; rw [hdd]
 rw [hdd] at hd KD
 refine H.rg 2 fun a H => ?_
 refine H.cq 1 KD fun a H => nt ?_
 refine H.rg 1 fun a H => ?_
 refine H.go gz rfl rfl _ (run_maxI rfl (H.ev rfl) (H.ev rfl)) fun a H => ?_
 refine H.ms 2 fun a H => ?_
 refine H.bn 1 (add_ii d (n : Int) (by omega) (by omega) _ _ _) fun a H => ?_
 refine H.go gz rfl rfl _ (run_minI rfl (H.ev rfl) (H.ev rfl)) fun a H => ?_
 refine H.ms 2 fun a H => nt ?_
 obtain ⟨fr, hfr⟩ : ∃ fr : Nat, max d 0 = (fr : Int) := ⟨(max d 0).toNat, by omega⟩
 obtain ⟨t, ht⟩ : ∃ t, min (d + (n : Int)) (k : Int) = t := ⟨_, rfl⟩
 rw [hfr, ht] at H hm
 replace H := H.kp [9, 13, 14]
 have hfl : fr < 2147483648 := by omega
 have htl : t ≤ 65536 := by omega
 refine H.rg 2 fun a H => ?_
 by_cases hc : t ≤ (fr : Int)
 ·refine H.bb 0 rfl rfl rfl rfl rfl rfl (geq_i _ _ true (by rw [decide_eq_true_iff]; exact hc) _ _ _) rfl fun a H => nt (H.condT rfl ?_)
  refine H.rg 2 fun a H => nt (wp_ret ?_)
  repeat (first | (with_reducible refine block_ret ?_) | (with_reducible refine then_ret ?_))
  rw [if_pos hc] at hm
  rw [hm]
  exact bodyPost_ret (results_pair rfl _ _ _ (H.at_ 4 _ rfl) (H.at_ 5 _ rfl)) H.df ⟨by show _ = Ending.returned (.tuple #[spV 0 0, iz 0]); unfold spV; rw [fl_zero], rfl⟩
 ·refine H.bb 0 rfl rfl rfl rfl rfl rfl (geq_i _ _ false (by rw [decide_eq_false_iff_not]; exact hc) _ _ _) rfl fun a H => nt (H.condF rfl (skip_wp (then_normal ?_)))
  rw [if_neg hc, Int.toNat_natCast] at hm
  rw [hm]
  obtain ⟨l, hl⟩ : ∃ l : Nat, t - (fr : Int) = (l : Int) := ⟨(t - (fr : Int)).toNat, by omega⟩
  rw [hl, Int.toNat_natCast]
  refine H.rg 2 fun a H => ?_
  refine H.cq 2 (spanAdd b fr (by omega) (by omega) w) fun a H => ?_
  refine H.bn 0 (sub_ii t (fr : Int) (by omega) (by omega) _ _ _) fun a H => ?_
  rw [hl] at H
  refine H.cq 2 (spanOf (spAdd b fr) l w) fun a H => nt (wp_ret ?_)
  repeat (first | (with_reducible refine block_ret ?_) | (with_reducible refine then_ret ?_))
  exact bodyPost_ret (results_pair rfl _ _ _ (H.at_ 4 _ rfl) (H.at_ 5 _ rfl)) H.df ⟨rfl, rfl⟩
end
section
open Go.RowKit
def wiAt (d : Int) : Nat := (max d 0).toNat
def wiTake (d : Int) (xs : List UInt8) : List UInt8 := if max d 0 ≥ min (d + (xs.length : Int)) 2048 then [] else (xs.drop (max d 0 - d).toNat).take (min (d + (xs.length : Int)) 2048 - max d 0).toNat
theorem wi_fits (d : Int) (xs : List UInt8) (h : wiTake d xs ≠ []) : wiAt d + (wiTake d xs).length ≤ 2048 := by
 unfold wiTake at h ⊢
 unfold wiAt
 split
 ·next hc => rw [if_pos hc] at h; exact absurd rfl h
 ·rw [List.length_take, List.length_drop]
  omega
theorem spDiff_add (nx fr : Nat) (h : fr < 2147483648) : spDiff (spAdd nx fr) nx = fr := by
 unfold spDiff spAdd
 split <;> omega
theorem spDiff_add2 (sq nx fr : Nat) (h0 : 0 ≤ (fr : Int) - spDiff sq nx) (h1 : (fr : Int) - spDiff sq nx < 2147483648) : spDiff (spAdd nx fr) sq = (fr : Int) - spDiff sq nx := by
 unfold spDiff at *
 unfold spAdd
 split at h0 <;> split <;> omega
theorem size_buf : (Tryz.prog.info? 104).map (·.size) = some 2 := by kernel_rfl
theorem zero_buf (w : World) : (zeroValue 104).run Tryz.prog w = .ok (.agg ([iz 0, nilV] : List Value).toArray) w := by kernel_rfl
theorem reasmWithin (nx sq : Nat) (vP : Value) (xs : List UInt8) (A : Option Addr) (c : Nat) (hx : nx ≤ 4294967295) (hs : sq ≤ 4294967295) (hn : xs.length ≤ 65536) (hc : xs.length ≤ c) (w : World) (hr : RB w w.heap.size A xs) :
  Calls Tryz.prog 124 #[.agg ([iz nx, vP] : List Value).toArray, iz sq, .slice A xs.length c] w fun e w' => ∃ v, e = .returned v ∧ (∃ (at_ : Nat) (A' : Option Addr) (c' : Nat), v = .tuple #[iz at_, .slice A' (wiTake (spDiff sq nx) xs).length c'] ∧ (wiTake (spDiff sq nx) xs).length ≤ c' ∧ (wiTake (spDiff sq nx) xs ≠ [] → at_ = wiAt (spDiff sq nx)) ∧ RB w' w'.heap.size A' (wiTake (spDiff sq nx) xs) ∧ Below w.heap.size w w') := by
 go_enter Tryz.func124, Tryz.ntmps124
 refine Has.start 58 [(0, .agg ([iz nx, vP] : List Value).toArray), (1, iz sq), (2, .slice A xs.length c)] rfl rfl ⟨rfl, rfl, rfl, trivial⟩ ?_
 intro a0 H0
 have O0 := Own.start w
 refine rl ?_
 refine H0.bx O0 2 (L := [iz nx, vP]) fun a1 w1 O1 H1 => nt ?_
 generalize hg : w.heap.size = g at O1 H1 ⊢
 replace H1 := H1.kp [1, 2, 3]
 refine H1.rg 1 fun a H => ?_
 refine H.ld 0 (load1_i _ _ _ _ ((O1.get 0 rfl).get 0 _ rfl)) fun a H => ?_
 refine H.cq 1 (spanOf_yes nx 2048 hx (by decide) w1) fun a H => ?_
 refine H.ex (r := spV nx 2048) 0 fun a H => ?_
 refine H.ex (r := iz 0) 2 fun a H => nt ?_
 replace H := H.kp [1, 2, 3, 8]
 refine H.rg 2 fun a H => ?_
 refine H.len gz rfl rfl rfl rfl Tryz.underlying31 fun a H => ?_
 refine H.cq 1 (spanOf_yes sq xs.length hs hn w1) fun a H => ?_
 refine H.ex (r := spV sq xs.length) 0 fun a H => ?_
 refine H.ex (r := iz 0) 2 fun a H => nt ?_
 replace H := H.kp [1, 2, 3, 8, 10]
 obtain ⟨m, hm⟩ : ∃ m, spMeet sq xs.length nx 2048 = m := ⟨_, rfl⟩
 have hml := spMeet_le sq xs.length nx 2048 (by decide)
 have K := spanMeet sq xs.length nx 2048 hs hn hx (by decide) w1
 rw [hm] at K hml
 refine H.rg 2 fun a H => ?_
 refine H.cq 1 K fun a H => ?_
 refine H.ex (r := spV m.1 m.2) 0 fun a H => ?_
 refine H.ex (r := iz 0) 2 fun a H => nt ?_
 replace H := H.kp [1, 2, 3, 12]
 refine H.rg 1 fun a H => ?_
 refine H.cq 1 (spanParts m.1 m.2 hml.1 hml.2 w1) fun a H => ?_
 refine H.ex (r := iz m.1) 0 fun a H => ?_
 refine H.ex (r := iz m.2) 0 fun a H => ?_
 refine H.ex (r := iz 0) 3 fun a H => nt ?_
 replace H := H.kp [1, 2, 3, 14, 15]
 refine H.rg 2 fun a H => ?_
 refine H.cq 1 (spanDiff m.1 sq (by omega) (by omega) w1) fun a H => nt ?_
 replace H := H.kp [1, 2, 3, 14, 15, 17]
 have hd := spDiff_le sq nx
 unfold spMeet at hm
 refine H.rg 1 fun a H => ?_
 by_cases hcc : max (spDiff sq nx) 0 ≥ min (spDiff sq nx + (xs.length : Int)) ((2048 : Nat) : Int)
 ·rw [if_pos hcc] at hm
  subst hm
  have hw : wiTake (spDiff sq nx) xs = [] := by unfold wiTake; rw [if_pos (by omega)]
  refine H.bb 0 rfl rfl rfl rfl rfl rfl (eql_iB _ _ true rfl _ _ _) rfl fun a H => nt (H.condT rfl ?_)
  refine H.rg 2 fun a H => nt (wp_ret ?_)
  repeat (first | (with_reducible refine block_ret ?_) | (with_reducible refine then_ret ?_))
  refine bodyPost_ret (results_pair rfl _ _ _ (H.at_ 6 _ rfl) (H.at_ 7 _ rfl)) H.df ⟨_, rfl, 0, none, 0, ?_, ?_, fun h => absurd hw h, ?_, O1.bel⟩
  ·rw [hw]; rfl
  ·rw [hw]; exact Nat.le_refl _
  ·rw [hw]; exact RB.nil
 ·rw [if_neg hcc] at hm
  obtain ⟨fr, hfr⟩ : ∃ fr : Nat, max (spDiff sq nx) 0 = (fr : Int) := ⟨(max (spDiff sq nx) 0).toNat, by omega⟩
  have hm1 : spAdd nx fr = m.1 := by rw [← hm, hfr]; rfl
  have hm2 : (min (spDiff sq nx + (xs.length : Int)) ((2048 : Nat) : Int) - max (spDiff sq nx) 0).toNat = m.2 := by rw [← hm]
  have hpos : m.2 ≠ 0 := by omega
  have e1 : spDiff m.1 sq = (fr : Int) - spDiff sq nx := by rw [← hm1]; exact spDiff_add2 sq nx fr (by omega) (by omega)
  have e2 : spDiff m.1 nx = (fr : Int) := by rw [← hm1]; exact spDiff_add nx fr (by omega)
  obtain ⟨lo, hlo⟩ : ∃ lo : Nat, (fr : Int) - spDiff sq nx = (lo : Int) := ⟨((fr : Int) - spDiff sq nx).toNat, by omega⟩
  rw [e1, hlo] at H
  have hw : wiTake (spDiff sq nx) xs = (xs.drop lo).take m.2 := by
   unfold wiTake
   rw [if_neg (by omega), show (max (spDiff sq nx) 0 - spDiff sq nx).toNat = lo by omega, show (min (spDiff sq nx + (xs.length : Int)) 2048 - max (spDiff sq nx) 0).toNat = m.2 from hm2]
  have hle : lo + m.2 ≤ xs.length := by omega
  have hlen : ((xs.drop lo).take m.2).length = m.2 := by rw [List.length_take, List.length_drop]; omega
  refine H.bb 0 rfl rfl rfl rfl rfl rfl (eql_iB _ _ false (by rw [beq_eq_false_iff_ne]; omega) _ _ _) rfl fun a H => nt (H.condF rfl (skip_wp (then_normal ?_)))
  have kd := spanDiff m.1 nx (by omega) (by omega)
  rw [e2] at kd
  refine H.dq (Own w g [(g, [iz nx, vP])]) (fun _ _ h hb => h.call hb) O1 [1, 2, 3, 14, 15, 17] rfl [ec 0 48 (iz m.1), ec 1 49 (pz g), ec 2 50 (iz nx), ec 3 51 (iz fr), ec 4 52 (.slice A xs.length c), ec 5 53 (iz lo), ec 6 54 (iz lo), ec 7 55 (iz m.2), ec 8 56 (iz ((lo + m.2 : Nat) : Int)), ec 9 57 (.slice (if c = lo then A else A.map (·.add lo)) (lo + m.2 - lo) (c - lo)), ec 10 6 (iz fr), ec 11 7 (.slice (if c = lo then A else A.map (·.add lo)) (lo + m.2 - lo) (c - lo))] rfl
   ⟨jm, jm, jl fun _ h => h.li 0 0, jq fun w' _ => kd w', jm, jm, jm, jm, jb fun _ => add_nn lo m.2 (by omega) _ _ _, js2 fun _ => slice_lh A xs.length c lo (lo + m.2) (by omega) (by omega) hc _, jm, jm, trivial⟩ trivial ?_
  intro a2 w2 H2 _ O2
  refine then_normal (wp_ret ?_)
  repeat (first | (with_reducible refine block_ret ?_) | (with_reducible refine then_ret ?_))
  refine bodyPost_ret (results_pair rfl _ _ _ (H2.at_ 6 _ rfl) (H2.at_ 7 _ rfl)) H2.df ⟨_, rfl, fr, if c = lo then A else A.map (·.add lo), c - lo, ?_, ?_, fun _ => ?_, ?_, O2.bel⟩
  ·rw [hw, hlen, show lo + m.2 - lo = m.2 by omega]
  ·rw [hw, hlen]; omega
  ·unfold wiAt; omega
  ·rw [hw]
   exact ((hr.next (hg ▸ O2.bel)).cut (by omega) hc).take m.2
end
section
open Go.RowKit
def lay1c (m : List (Option UInt8)) (i : Nat) (x : UInt8) : List (Option UInt8) := if m[i]? = some none then m.set i (some x) else m
def layG (m : List (Option UInt8)) (i : Nat) : List UInt8 → List (Option UInt8)
 | [] => m
 | x :: r => layG (lay1c m i x) (i + 1) r
theorem lay1c_len (m : List (Option UInt8)) (i : Nat) (x : UInt8) : (lay1c m i x).length = m.length := by
 unfold lay1c
 split
 ·exact List.length_set
 ·rfl
theorem layG_len : ∀ (xs : List UInt8) (m : List (Option UInt8)) (i : Nat), (layG m i xs).length = m.length
 | [], _, _ => rfl
 | x :: r, m, i => by rw [layG, layG_len r, lay1c_len]
theorem layG_take : ∀ (xs : List UInt8) (m : List (Option UInt8)) (i k : Nat) (x : UInt8), xs[k]? = some x → layG m i (xs.take (k + 1)) = lay1c (layG m i (xs.take k)) (i + k) x
 | [], _, _, _, _, h => by simp at h
 | y :: r, m, i, 0, x, h => by
  have h : y = x := by simpa using h
  subst h
  rw [List.take_succ_cons, List.take_zero, List.take_zero]
  rfl
 | y :: r, m, i, k + 1, x, h => by
  rw [List.take_succ_cons, List.take_succ_cons, layG, layG, layG_take r (lay1c m i y) (i + 1) k x (by simpa using h), Nat.add_assoc, Nat.add_comm 1 k]
def hasC (m : List (Option UInt8)) : List Value := m.map fun o => .bool o.isSome
def allC (m : List (Option UInt8)) : List Value := m.map fun o => bv (o.getD 0)
theorem hasC_set (m : List (Option UInt8)) (i : Nat) (x : UInt8) : hasC (m.set i (some x)) = (hasC m).set i (.bool true) := List.map_set
theorem allC_set (m : List (Option UInt8)) (i : Nat) (x : UInt8) : allC (m.set i (some x)) = (allC m).set i (bv x) := List.map_set
theorem hasC_at {m : List (Option UInt8)} {i : Nat} {o : Option UInt8} (h : m[i]? = some o) : (hasC m)[i]? = some (.bool o.isSome) := by
 unfold hasC
 rw [List.getElem?_map, h]
 rfl
theorem allC_at {m : List (Option UInt8)} {i : Nat} {o : Option UInt8} (h : m[i]? = some o) : (allC m)[i]? = some (bv (o.getD 0)) := by
 unfold allC
 rw [List.getElem?_map, h]
 rfl
theorem load1_bs (g o n c : Nat) (A : Option Addr) (w : World) (h : w.cell? ⟨g, o, none⟩ = some (.slice A n c)) : (Instr.loadAt 151 (.pointer (some ⟨g, o, none⟩))).run Tryz.prog w = .ok (.slice A n c) w := by
 simp [go_sem, h]
theorem index_bs (b n c k : Nat) (hk : k < n) (w : World) : (Instr.indexAt 151 (.slice (some ⟨b, 0, none⟩) n c) (iz k)).run Tryz.prog w = .ok (.pointer (some ⟨b, k, none⟩)) w := by
 have h := index_1 151 Tryz.underlying151 (fun _ => by kernel_rfl) b 0 n c k hk w
 rw [Nat.zero_add] at h
 exact h
theorem index_us (b n c k : Nat) (hk : k < n) (w : World) : (Instr.indexAt 31 (.slice (some ⟨b, 0, none⟩) n c) (iz k)).run Tryz.prog w = .ok (.pointer (some ⟨b, k, none⟩)) w := by
 have h := index_1 31 Tryz.underlying31 (fun _ => by kernel_rfl) b 0 n c k hk w
 rw [Nat.zero_add] at h
 exact h
theorem store1_w (g o : Nat) (v : UInt8) (u : Value) (w : World) (h : w.cell? ⟨g, o, none⟩ = some u) (hf : w.frozen? ⟨g, o, none⟩ = false) : (Instr.storeAt 5 (.pointer (some ⟨g, o, none⟩)) (bv v)).run Tryz.prog w = .ok () (w.setCell ⟨g, o, none⟩ (bv v)) := by
 simp [go_sem, h, hf]
abbrev winB (gA gH g7 g6 : Nat) (m : List (Option UInt8)) (tl : List (Nat × List Value)) : List (Nat × List Value) := (gA, allC m) :: (gH, hasC m) :: (g7, [.slice (some ⟨gA, 0, none⟩) 2048 2048]) :: (g6, [.slice (some ⟨gH, 0, none⟩) 2048 2048]) :: tl
theorem layW (W : World) (B gA gH g7 g6 : Nat) (tl : List (Nat × List Value)) (m : List (Option UInt8)) (hm : m.length = 2048) (at_ : Nat) (xs : List UInt8) (A : Option Addr) (c : Nat) (hfit : at_ + xs.length ≤ 2048) (hr : RB W B A xs) (w : World) (O : Own W B (winB gA gH g7 g6 m tl) w) :
  Calls Tryz.prog 147 #[iz at_, .slice A xs.length c, pz g6, pz g7] w fun e w' => e = .returned (.tuple #[]) ∧ Own W B (winB gA gH g7 g6 (layG m at_ xs) tl) w' := by
 go_enter Tryz.func147, Tryz.ntmps147
 refine Has.start 34 [(0, iz at_), (1, .slice A xs.length c), (2, pz g6), (3, pz g7)] rfl rfl ⟨rfl, rfl, rfl, rfl, trivial⟩ ?_
 intro a0 H0
 refine H0.rg 1 fun a H => ?_
 refine H.len gz rfl rfl rfl rfl Tryz.underlying31 fun a H => ?_
 refine H.ms 1 fun a H => nt ?_
 replace H := H.kp [0, 2, 3, 8, 9, 10]
 refine wp_block ?_
 refine wp_loop_up xs.length (fun k a w' => Has a 34 [(0, iz at_), (2, pz g6), (3, pz g7), (8, .slice A xs.length c), (9, iz xs.length), (10, iz k)] ∧ Own W B (winB gA gH g7 g6 (layG m at_ (xs.take k)) tl) w') ⟨H, by rw [List.take_zero]; exact O⟩ ?_
 clear H0 H O
 rintro k a1 w1 hk ⟨H, O⟩
 refine H.rg 0 fun a H => ?_
 by_cases hlt : k < xs.length
 rotate_left
 ·refine H.bb 0 rfl rfl rfl rfl rfl rfl (lss_i _ _ false (by rw [decide_eq_false_iff_not]; omega) _ _ _) rfl fun a H => nt (wp_seq (H.condF rfl ?_))
  refine wp_exit ?_
  repeat (with_reducible refine then_exit ?_)
  refine block_leave ?_
  have : k = xs.length := by omega
  subst this
  rw [List.take_length] at O
  exact bodyPost_end (results_none rfl _ _ _) H.df ⟨rfl, O⟩
 refine H.bb 0 rfl rfl rfl rfl rfl rfl (lss_i _ _ true (by rw [decide_eq_true_iff]; omega) _ _ _) rfl fun a H => nt (wp_seq (H.condT rfl ?_))
 refine skip_wp (then_normal ?_)
 obtain ⟨mk, hmk⟩ : ∃ mk, layG m at_ (xs.take k) = mk := ⟨_, rfl⟩
 have hml : mk.length = 2048 := by rw [← hmk, layG_len, hm]
 obtain ⟨b, o, x, rfl, hbB, hx, hcell⟩ := hr.get hlt
 have hnext := layG_take xs m at_ k x hx
 rw [hmk] at O hnext
 replace H := H.kp [0, 2, 3, 8, 9, 10]
 refine wp_seq_join (fun a w' => Has a 34 [(0, iz at_), (2, pz g6), (3, pz g7), (8, .slice (some ⟨b, o, none⟩) xs.length c), (9, iz xs.length), (10, iz k)] ∧ Own W B (winB gA gH g7 g6 (lay1c mk (at_ + k) x) tl) w') ?_ ?_
 rotate_left
 ·rintro a w' ⟨H, O⟩
  refine H.rg 0 fun a H => ?_
  refine H.bb 1 rfl rfl rfl rfl rfl rfl (succ_i k (by omega) _ _ _) rfl fun a H => nt ?_
  exact ⟨hlt, H.keep ⟨rfl, rfl, rfl, rfl, rfl, rfl, trivial⟩, by rw [hnext]; exact O⟩
 refine wp_block ?_
 refine H.rg 1 fun a H => ?_
 refine H.index gz rfl rfl rfl rfl rfl (index_1 31 Tryz.underlying31 (fun _ => by kernel_rfl) b o xs.length c k hlt _) fun a H => ?_
 refine H.ld 2 (load1_u _ _ _ _ ((cellB O.bel hbB).trans hcell)) fun a H => nt ?_
 obtain ⟨od, hod⟩ : ∃ od, mk[at_ + k]? = some od := ⟨_, List.getElem?_eq_getElem (by omega)⟩
 replace H := H.kp [0, 2, 3, 6, 7, 8, 9, 10]
 refine H.rg 0 fun a H => ?_
 refine H.ld 2 (load1_bs _ _ _ _ _ _ ((O.get 3 rfl).get 0 _ rfl)) fun a H => ?_
 refine H.bn 0 (add_nn at_ k (by omega) _ _ _) fun a H => ?_
 refine H.index gz rfl rfl rfl rfl rfl (index_bs gH 2048 2048 (at_ + k) (by omega) _) fun a H => ?_
 refine H.ld 0 (load1_b _ _ _ _ ((O.get 1 rfl).get (at_ + k) _ (hasC_at hod))) fun a H => ?_
 refine H.un gz rfl rfl rfl rfl (run_not od.isSome _) fun a H => nt ?_
 replace H := H.kp [0, 2, 3, 6, 7, 8, 9, 10, 21]
 cases od with
 | some y =>
  refine H.condF rfl (skip_wp (block_normal ⟨H.keep ⟨rfl, rfl, rfl, rfl, rfl, rfl, trivial⟩, ?_⟩))
  unfold lay1c
  rw [if_neg (by rw [hod]; simp)]
  exact O
 | none =>
  have hl1 : lay1c mk (at_ + k) x = mk.set (at_ + k) (some x) := by unfold lay1c; rw [if_pos hod]
  rw [hl1]
  have j1 := hasC_at hod
  have j2 := allC_at hod
  refine H.condT rfl ?_
  refine H.sg (fun w' => Own W B (winB gA gH g7 g6 mk tl) w') O.drew [0, 2, 3, 6, 7, 8, 9, 10] [ec 0 22 (.slice (some ⟨gH, 0, none⟩) 2048 2048), ec 1 23 (iz at_), ec 2 24 (iz k), ec 3 25 (iz ((at_ + k : Nat) : Int)), ec 4 26 (.slice (some ⟨gA, 0, none⟩) 2048 2048), ec 5 27 (iz at_), ec 6 28 (iz k), ec 7 29 (iz ((at_ + k : Nat) : Int)), ec 8 30 (bv x), ec 9 31 (.pointer (some ⟨gH, at_ + k, none⟩)), ec 11 32 (.pointer (some ⟨gA, at_ + k, none⟩))] rfl ?_
  refine St.sto 10 ⟨jl fun _ h => load1_bs _ _ _ _ _ _ ((h.get 3 rfl).get 0 _ rfl), jm, jm, jb fun _ => add_nn at_ k (by omega) _ _ _, jl fun _ h => load1_31 _ _ _ _ _ _ ((h.get 2 rfl).get 0 _ rfl), jm, jm, jb fun _ => add_nn at_ k (by omega) _ _ _, jm, jI rfl rfl rfl rfl rfl rfl (index_bs gH 2048 2048 (at_ + k) (by omega)), jI rfl rfl rfl rfl rfl rfl (index_us gA 2048 2048 (at_ + k) (by omega)), trivial⟩ ?_
  intro a wu H _ Ou
  obtain ⟨c1, c2⟩ := (Ou.get 1 rfl) _ _ j1
  refine ⟨_, run_store rfl (H.ev rfl) (H.ev rfl) (store1_b _ _ _ _ _ c1 c2), nx0 (fun w' => Own W B ((gA, allC mk) :: (gH, hasC (mk.set (at_ + k) (some x))) :: (g7, [.slice (some ⟨gA, 0, none⟩) 2048 2048]) :: (g6, [.slice (some ⟨gH, 0, none⟩) 2048 2048]) :: tl) w') [] [] ?_ ?_⟩
  ·rw [hasC_set]
   exact Ou.turn 1 rfl (grown_setCell _ _ _ _) ((Ou.get 1 rfl).set _ _ (List.getElem?_eq_some_iff.1 j1).1)
  refine St.sto 12 ⟨jl fun _ h => load1_31 _ _ _ _ _ _ ((h.get 2 rfl).get 0 _ rfl), jm, jm, jb fun _ => add_nn at_ k (by omega) _ _ _, jm, jI rfl rfl rfl rfl rfl rfl (index_us gA 2048 2048 (at_ + k) (by omega)), trivial⟩ ?_
  intro a wu H _ Ou
  obtain ⟨c1, c2⟩ := (Ou.get 0 rfl) _ _ j2
  refine ⟨_, run_store rfl (H.ev rfl) (H.ev rfl) (store1_w _ _ _ _ _ c1 c2), nx0 (fun w' => Own W B (winB gA gH g7 g6 (mk.set (at_ + k) (some x)) tl) w') [] [] ?_ ?_⟩
  ·rw [winB, allC_set]
   exact Ou.turn 0 rfl (grown_setCell _ _ _ _) ((Ou.get 0 rfl).set _ _ (List.getElem?_eq_some_iff.1 j2).1)
  refine St.fin trivial ?_
  intro a w' H _ O
  refine block_normal (then_normal ?_)
  exact ⟨H.keep ⟨rfl, rfl, rfl, rfl, rfl, rfl, trivial⟩, O⟩
end
section
open Go.RowKit
def PartsAt (w : World) (B : Nat) (AP : Option Addr) (ps : List (Nat × List UInt8)) : Prop :=
 ∀ k p, ps[k]? = some p → ∃ g o A c, AP = some ⟨g, o, none⟩ ∧ g < B ∧ w.rangeAt g (o + k * 2) [iz p.1, .slice A p.2.length c] ∧ RB w B A p.2
theorem PartsAt.below {w w' : World} {B : Nat} {AP : Option Addr} {ps : List (Nat × List UInt8)} (h : PartsAt w B AP ps) (hb : Below B w w') : PartsAt w' B AP ps := by
 intro k p hk
 obtain ⟨g, o, A, c, h1, h2, h3, h4⟩ := h k p hk
 exact ⟨g, o, A, c, h1, h2, rangeB h3 hb h2, h4.below hb⟩
theorem PartsAt.more {w : World} {B B' : Nat} {AP : Option Addr} {ps : List (Nat × List UInt8)} (h : PartsAt w B AP ps) (hb : B ≤ B') : PartsAt w B' AP ps := by
 intro k p hk
 obtain ⟨g, o, A, c, h1, h2, h3, h4⟩ := h k p hk
 exact ⟨g, o, A, c, h1, Nat.lt_of_lt_of_le h2 hb, h3, h4.more hb⟩
def layP (nx : Nat) (m : List (Option UInt8)) (ps : List (Nat × List UInt8)) : List (Option UInt8) := ps.foldl (fun m p => layG m (spDiff p.1 nx).toNat p.2) m
theorem layP_take {nx : Nat} {m : List (Option UInt8)} {ps : List (Nat × List UInt8)} {k : Nat} {p : Nat × List UInt8} (h : ps[k]? = some p) : layP nx m (ps.take (k + 1)) = layG (layP nx m (ps.take k)) (spDiff p.1 nx).toNat p.2 := by
 unfold layP
 rw [List.take_add_one, h, List.foldl_append]
 rfl
theorem layP_len (nx : Nat) : ∀ (ps : List (Nat × List UInt8)) (m : List (Option UInt8)), (layP nx m ps).length = m.length
 | [], _ => rfl
 | p :: r, m => by
  show (layP nx (layG m (spDiff p.1 nx).toNat p.2) r).length = _
  rw [layP_len nx r, layG_len]
def RowQ (base T : Nat) (L : List Value) (v : Value) (w : World) : Prop := ∃ g, v = .slice (some ⟨g, 0, none⟩) L.length L.length ∧ base ≤ g ∧ g < w.heap.size ∧ Cells w g L ∧ TypB w g T
theorem RowQ.below {base T : Nat} {L : List Value} {v : Value} {w w' : World} (hb : Below w.heap.size w w') (h : RowQ base T L v w) : RowQ base T L v w' := by
 obtain ⟨g, h1, h2, h3, h4, h5⟩ := h
 exact ⟨g, h1, h2, Nat.lt_of_lt_of_le h3 hb.size, h4.below hb h3, h5.below hb⟩
theorem RowQ.kept {base T : Nat} {L : List Value} {v : Value} {w w' : World} {r : Option Nat} (hg : w.grownBy w' r) (hr : ∀ k, r = some k → k < base) (h : RowQ base T L v w) : RowQ base T L v w' := by
 obtain ⟨g, h1, h2, h3, h4, h5⟩ := h
 have hne : some g ≠ r := fun e => by have := hr g e.symm; omega
 exact ⟨g, h1, h2, Nat.lt_of_lt_of_le h3 hg.size, h4.kept hg h3 hne, h5.grown hg hne⟩
theorem typ_ne {w : World} {g g' T T' : Nat} (h : TypB w g T) (h' : TypB w g' T') (hT : Nat.beq T T' = false) : g ≠ g' := by
 rintro rfl
 obtain ⟨l, fr, h⟩ := h
 obtain ⟨l', fr', h'⟩ := h'
 rw [h] at h'
 injection h' with h'
 injection h' with _ h' _
 subst h'
 rw [Nat.beq_refl] at hT
 cases hT
theorem run_callV {P : Program} {o : Oper} {a : Act} {w : World} {x : Operand} {xs : Array Operand} {ats : Array TypeId} {f : FuncId} {cap vs : List Value} (ho : o.op = .call { callee := .value x, args := xs, argTypes := ats }) (hx : a.eval x = .func (.func f) #[] cap.toArray) (hv : xs.map a.eval = vs.toArray)
  (hen : ∀ (args : Array Value) (w : World), (callFunc f args).run P w = .ok (.enter f args) w) : (execOp a.eval o).run P w = .ok (.enter f (vs ++ cap).toArray) w := by
 unfold execOp
 simp only [ho, resolve, Deferred.ofValue, hx, hv, Sem.run_bind, Sem.run_pure, Result.andThen_ok, invoke, hen]
 simp
theorem Has.cf {ops : Array Oper} {rest : List Oper} {o : Oper} {a : Act} {w : World} {Q : Exit → Act → World → Prop} {n : Nat} {l : List (Nat × Value)} (H : Has a n l) {d : Nat} {f : FuncId} {x : Operand} {xs : Array Operand} {ats : Array TypeId} {vs cap : List Value} {R : Value → World → Prop} (hc : Calls Tryz.prog f (vs ++ cap).toArray w fun e w' => ∃ v, e = .returned v ∧ R v w') (h : ∀ a' v w', R v w' → Has a' n ((d, v) :: l) → wpList Tryz.prog ops Q rest a' w')
  (ho : o.op = .call { callee := .value x, args := xs, argTypes := ats } := by rfl) (hd : o.dst = some d := by rfl) (hn : Nat.blt d n = true := by rfl) (hg : o.guard = none := by rfl) (hf : evL l x = some (.func (.func f) #[] cap.toArray) := by rfl) (hx : evLs l xs.toList = some vs := by rfl)
  (hen : ∀ (args : Array Value) (w : World), (callFunc f args).run Tryz.prog w = .ok (.enter f args) w := by exact fun _ _ => by kernel_rfl) : wpList Tryz.prog ops Q (o :: rest) a w := by
 refine wpList_enter (gz hg) d hd f (vs ++ cap).toArray (run_callV ho (H.ev hf) ?_ hen) R hc (fun v w' hR => h _ v w' hR (H.put hn v))
 rw [← H.evs hx, ← Array.toList_map, Array.toArray_toList]
section
variable {ops : Array Oper} {Q : Exit → Act → World → Prop} {n : Nat} {fixed : List (Nat × Value)} {es : List EntC} {F : World → Prop} {done : List Nat} {o : Oper} {d : Nat}
theorem St.cf (h : Nat) {f : FuncId} {x : Operand} {xs : Array Operand} {ats : Array TypeId} {vs cap : List Value} {R : World → Value → World → Prop} (hl : LightAll ops Q n fixed F es done es) (hc : ∀ w, F w → Calls Tryz.prog f (vs ++ cap).toArray w fun e w' => ∃ v, e = .returned v ∧ R w v w') (hn : ∀ w v w', F w → R w v w' → Nx ops Q n fixed es done h d v w w')
  (ho : ops[h]? = some o := by rfl) (hp : o.op = .call { callee := .value x, args := xs, argTypes := ats } := by rfl) (hd : o.dst = some d := by rfl) (hg : okG ops (fixed ++ knownE (afts ops h) es) o = true := by rfl) (hf : evL (fixed ++ knownE (afts ops h) es) x = some (.func (.func f) #[] cap.toArray) := by rfl) (hx : evLs (fixed ++ knownE (afts ops h) es) xs.toList = some vs := by rfl)
  (hen : ∀ (args : Array Value) (w : World), (callFunc f args).run Tryz.prog w = .ok (.enter f args) w := by exact fun _ _ => by kernel_rfl) (hB : stB ops n fixed es done h = true := by kernel_rfl) (hN : Nat.ble ops.size 1000 = true := by kernel_rfl) (hback : backB ops = true := by kernel_rfl)
  (hF : es.all plainB = true ∨ ∀ w w', F w → Below w.heap.size w w' → F w' := by exact .inl rfl) (hst : StabAll es := by exact trivial) : St ops Q n fixed es F done := by
 refine st_go h (Array.getElem?_eq_some_iff.1 ho).1 (back_of hback) hB hN hF hst hl ?_
 intro o' K a w ho' H _ hFw hK _
 rw [ho] at ho'
 injection ho' with ho'
 subst ho'
 refine wpOp_enter ho (okG_w H hg) d hd f _ (run_callV hp (H.ev hf) ?_ hen) _ (hc w hFw) fun v w' hR => hK d v w' hd (hn w v w' hFw hR)
 rw [← H.evs hx, ← Array.toList_map, Array.toArray_toList]
theorem km {t e base k : Nat} {z : Value} {L : List Value} {x y : Operand} (ht : Tryz.prog.underlying t = some (.slice e)) (hi : (Tryz.prog.info? e).map (fun i => (i.zero, i.size, i.bytes)) = some (some z, 1, 1)) (hz : z.cells = #[z]) (hL : L = List.replicate k z) (hk : k ≤ 1000000) (hb : ∀ w, F w → base ≤ w.heap.size)
  {i s : Nat} (ho : ops[i]? = some o := by rfl) (hp : o.op = .makeSlice t x y := by rfl) (hd : o.dst = some s := by rfl) (hg : okG ops (fixed ++ knownE (afts ops i) es) o = true := by rfl) (hx : x = .const (iz k) := by rfl) (hy : y = .const (iz k) := by rfl) : HeavyE ops Q n fixed F es (er i s [] (RowQ base e L)) :=
 kx (t := er i s [] (RowQ base e L)) (fun a w _ _ hF => by
  obtain ⟨i, hi0, hz0, hz1, hz2⟩ := info_parts (P := Tryz.prog) hi
  have hr := run_make (P := Tryz.prog) w t e i z ht hi0 hz0 .i64 .i64 (k : Int) (k : Int) (by omega) (Int.le_refl _) (by rw [hz2]; omega) (by omega)
  rw [Int.toNat_natCast, hz1, Nat.mul_one, hz] at hr
  have hC : (madeCells #[z] k).toList = L := by rw [toList_madeCells_one, hL]
  refine ⟨.slice (some ⟨w.heap.size, 0, none⟩) k k, w.alloc (.cells (madeCells #[z] k) e), ?_, ⟨w.heap.size, ?_, hb w hF, lt_alloc _ _, ?_, ⟨_, _, heap_alloc_new w _⟩⟩, balloc _ _⟩
  ·unfold execOp
   simp only [hp, hx, hy, Act.eval, Sem.run_bind, hr, Result.andThen_ok, Sem.run_pure]
  ·rw [hL, List.length_replicate]
  ·have := Cells.of_heap (l := L) (T := e) (w := w.alloc (.cells (madeCells #[z] k) e)) (g := w.heap.size) (by rw [heap_alloc_new, ← hC])
   exact this) ho hd hg
end
end
section
open Go.RowKit
theorem size_part : (Tryz.prog.info? 153).map (·.size) = some 2 := by kernel_rfl
theorem zero_part (w : World) : (zeroValue 153).run Tryz.prog w = .ok (.agg ([iz 0, nilV] : List Value).toArray) w := by kernel_rfl
theorem load1_ps (g o n c : Nat) (A : Option Addr) (w : World) (h : w.cell? ⟨g, o, none⟩ = some (.slice A n c)) : (Instr.loadAt 102 (.pointer (some ⟨g, o, none⟩))).run Tryz.prog w = .ok (.slice A n c) w := by
 simp [go_sem, h]
theorem store1_bs (g o n c : Nat) (A : Option Addr) (u : Value) (w : World) (h : w.cell? ⟨g, o, none⟩ = some u) (hf : w.frozen? ⟨g, o, none⟩ = false) : (Instr.storeAt 151 (.pointer (some ⟨g, o, none⟩)) (.slice A n c)).run Tryz.prog w = .ok () (w.setCell ⟨g, o, none⟩ (.slice A n c)) := by
 simp [go_sem, h, hf]
theorem results_cc {P : Program} {fn : Func} {p q : Tmp} {T U : TypeId} (h : fn.results = #[.cell p T, .cell q U]) (tmps : Array Value) {u v : Value} {x y : Addr} {w : World} (hp : tmps.getD p undef = .pointer (some x)) (hq : tmps.getD q undef = .pointer (some y)) (h1 : (loadVar T x).run P w = .ok u w) (h2 : (loadVar U y).run P w = .ok v w) : (results fn tmps).run P w = .ok (.tuple #[u, v]) w := by
 have hp' : tmps[p]?.getD undef = .pointer (some x) := by simpa using hp
 have hq' : tmps[q]?.getD undef = .pointer (some y) := by simpa using hq
 simp [results, h, hp', hq', asAddr, h1, h2]
theorem loadv_bs (g o n c : Nat) (A : Option Addr) (w : World) (h : w.cell? ⟨g, o, none⟩ = some (.slice A n c)) : (loadVar 151 ⟨g, o, none⟩).run Tryz.prog w = .ok (.slice A n c) w := by
 simp [go_sem, h]
theorem loadv_us (g o n c : Nat) (A : Option Addr) (w : World) (h : w.cell? ⟨g, o, none⟩ = some (.slice A n c)) : (loadVar 31 ⟨g, o, none⟩).run Tryz.prog w = .ok (.slice A n c) w := by
 simp [go_sem, h]
theorem addq0 {W w : World} {B : Nat} {bs : List (Nat × List Value)} (h : Own W B bs w) {q : Nat} {L : List Value} (hB : B ≤ q) (hlt : q < w.heap.size) (hne : ∀ p ∈ bs, p.1 ≠ q) (hC : Cells w q L) : Own W B ((q, L) :: bs) w := by
 refine ⟨h.bel, h.le, ?_, fun p hp => ?_⟩
 ·rw [List.map_cons, List.nodup_cons]
  exact ⟨fun hm => by obtain ⟨p, hp, e⟩ := List.mem_map.1 hm; exact hne p hp e, h.nd⟩
 ·rcases List.mem_cons.1 hp with rfl | hp
  ·exact ⟨hB, hlt, hC⟩
  ·exact h.mem p hp
def win0 : List (Option UInt8) := List.replicate 2048 none
theorem info_bool : (Tryz.prog.info? 4).map (fun i => (i.zero, i.size, i.bytes)) = some (some (.bool false), 1, 1) := by kernel_rfl
theorem hasC_0 : hasC win0 = List.replicate 2048 (.bool false) := List.map_replicate
theorem allC_0 : allC win0 = List.replicate 2048 (bv 0) := List.map_replicate
theorem reasmFill (nq : Nat) (AP : Option Addr) (cP : Nat) (ps : List (Nat × List UInt8)) (at_ : Nat) (xs : List UInt8) (A : Option Addr) (c : Nat) (w : World) (hx : nq ≤ 4294967295) (hl : ps.length ≤ 100000) (hP : PartsAt w w.heap.size AP ps) (hps : ∀ p ∈ ps, p.1 ≤ 4294967295 ∧ 0 ≤ spDiff p.1 nq ∧ spDiff p.1 nq + (p.2.length : Int) ≤ 2048) (hr : RB w w.heap.size A xs) (hfit : at_ + xs.length ≤ 2048) :
  Calls Tryz.prog 125 #[.agg ([iz nq, .slice AP ps.length cP] : List Value).toArray, iz at_, .slice A xs.length c] w fun e w' => ∃ v, e = .returned v ∧ ∃ gH gA, v = .tuple #[.slice (some ⟨gH, 0, none⟩) 2048 2048, .slice (some ⟨gA, 0, none⟩) 2048 2048] ∧ Own w w.heap.size [(gA, allC (layG (layP nq win0 ps) at_ xs)), (gH, hasC (layG (layP nq win0 ps) at_ xs))] w' := by
 go_enter Tryz.func125, Tryz.ntmps125
 refine Has.start 37 [(0, .agg ([iz nq, .slice AP ps.length cP] : List Value).toArray), (1, iz at_), (2, .slice A xs.length c)] rfl rfl ⟨rfl, rfl, rfl, trivial⟩ ?_
 intro a0 H0
 have O0 := Own.start w
 refine rl ?_
 refine H0.bx O0 0 (L := [iz nq, .slice AP ps.length cP]) fun a w1 O1 H => ?_
 generalize hg3 : w.heap.size = g3 at O1 H hP hr ⊢
 refine H.any (w' := w1.alloc (.cells #[nilV] 151)) gz rfl rfl (pz w1.heap.size) (by intro cs b h; cases h) (by kernel_rfl) (by kernel_rfl) fun a H => ?_
 have O2 := O1.alloc (balloc w1 (.cells #[nilV] 151)) (by simp) (L := [nilV]) (Cells.of_heap (heap_alloc_new w1 _))
 generalize w1.alloc (.cells #[nilV] 151) = w2 at O2 H
 generalize w1.heap.size = g6 at O2 H
 refine H.any (w' := w2.alloc (.cells #[nilV] 31)) gz rfl rfl (pz w2.heap.size) (by intro cs b h; cases h) (by kernel_rfl) (by kernel_rfl) fun a H => nt ?_
 have O3 := O2.alloc (balloc w2 (.cells #[nilV] 31)) (by simp) (L := [nilV]) (Cells.of_heap (heap_alloc_new w2 _))
 have hg6 : g6 < w2.heap.size := O2.lt 0 rfl
 generalize w2.alloc (.cells #[nilV] 31) = w3 at O3 H
 generalize w2.heap.size = g7 at O3 H hg6
 have hg3' : g3 ≤ g6 := O3.ge 1 rfl
 replace H := H.kp [1, 2, 3, 6, 7]
 refine H.sg (fun w' => Own w g3 [(g7, [nilV]), (g6, [nilV]), (g3, [iz nq, .slice AP ps.length cP])] w') O3.drew [1, 2, 3, 6, 7] [er 0 11 [] (RowQ (g7 + 1) 4 (hasC win0)), er 1 12 [] (RowQ (g7 + 1) 5 (allC win0))] rfl ?_
 refine St.sto 2 ⟨km Tryz.underlying151 info_bool rfl hasC_0 (by decide) (fun _ h => h.lt 0 rfl), km Tryz.underlying31 info_u8 rfl allC_0 (by decide) (fun _ h => h.lt 0 rfl), trivial⟩ ?_ (hF := .inr fun _ _ h hb => h.call hb) (hst := ⟨fun _ _ _ hb h => h.below hb, fun _ _ _ hb h => h.below hb, trivial⟩)
 have l1 : (hasC win0).length = 2048 := by rw [hasC_0, List.length_replicate]
 have l2 : (allC win0).length = 2048 := by rw [allC_0, List.length_replicate]
 rintro a wu H ⟨⟨gH, e1, q1, q2, q3, q4⟩, _⟩ Ou
 rw [l1] at e1
 obtain ⟨c1, c2⟩ := (Ou.get 1 rfl) 0 _ rfl
 refine ⟨_, run_store rfl (H.ev rfl) e1 (store1_bs _ _ _ _ _ _ _ c1 c2), nx0 (fun w' => ∃ gH, g7 + 1 ≤ gH ∧ TypB w' gH 4 ∧ Own w g3 [(gH, hasC win0), (g7, [nilV]), (g6, [.slice (some ⟨gH, 0, none⟩) 2048 2048]), (g3, [iz nq, .slice AP ps.length cP])] w') [] [0] ⟨gH, q1, q4.set _ _, ?_⟩ ?_ (hk := ⟨fun _ h => h.kept (grown_setCell _ _ _ _) (fun k e => by injection e with e; omega), trivial⟩)⟩
 ·refine (addq0 Ou (by omega) q2 ?_ q3).turn 2 rfl (grown_setCell _ _ _ _) ((Ou.get 1 rfl).set 0 _ (by decide))
  intro p hp
  simp only [List.mem_cons, List.not_mem_nil, or_false] at hp
  rcases hp with rfl | rfl | rfl <;> (show _ ≠ gH; omega)
 refine St.sto 3 ⟨km Tryz.underlying31 info_u8 rfl allC_0 (by decide) (fun _ ⟨_, h1, _, h⟩ => by have := h.lt 0 rfl; omega), trivial⟩ ?_ (hF := .inr fun _ _ ⟨gH, h1, h2, h⟩ hb => ⟨gH, h1, h2.below hb, h.call hb⟩) (hst := ⟨fun _ _ _ hb h => h.below hb, trivial⟩)
 clear e1 q1 q2 q3 q4 c1 c2 Ou H
 rintro a wu H ⟨⟨gA, e1, q1, q2, q3, q4⟩, _⟩ ⟨gH, p1, p2, Ou⟩
 rw [l2] at e1
 have hne := typ_ne p2 q4 rfl
 obtain ⟨c1, c2⟩ := (Ou.get 1 rfl) 0 _ rfl
 refine ⟨_, run_store rfl (H.ev rfl) e1 (store1_31 _ _ _ _ _ _ _ c1 c2), nx0 (fun w' => ∃ gH gA, Own w g3 (winB gA gH g7 g6 win0 [(g3, [iz nq, .slice AP ps.length cP])]) w') [] [1] ⟨gH, gA, ?_⟩ ?_⟩
 ·refine (addq0 Ou (by omega) q2 ?_ q3).turn 2 rfl (grown_setCell _ _ _ _) ((Ou.get 1 rfl).set 0 _ (by decide))
  intro p hp
  simp only [List.mem_cons, List.not_mem_nil, or_false] at hp
  rcases hp with rfl | rfl | rfl | rfl <;> (show _ ≠ gA; omega)
 refine St.fin trivial ?_
 clear e1 q1 q2 q3 q4 c1 c2 Ou H p1 p2 hne
 rintro a w4 H _ ⟨gH, gA, O4⟩
 refine then_normal ?_
 replace H := H.kp [1, 2, 3, 6, 7]
 refine H.rg 0 fun a H => ?_
 refine H.any (w' := w4) gz rfl rfl (.func (.func 147) #[] #[pz g6, pz g7]) (by intro cs b h; cases h) (by kernel_rfl) (by kernel_rfl) fun a H => ?_
 refine H.ms 1 fun a H => nt ?_
 refine H.rg 1 fun a H => ?_
 refine H.ld 0 (load1_ps _ _ _ _ _ _ ((O4.get 4 rfl).get 1 _ rfl)) fun a H => ?_
 refine H.len gz rfl rfl rfl rfl Tryz.underlying102 fun a H => ?_
 refine H.ms 1 fun a H => nt ?_
 replace H := H.kp [1, 2, 3, 6, 7, 8, 15, 16, 17]
 have hn0 : win0.length = 2048 := List.length_replicate
 refine wp_block ?_
 refine wp_loop_up ps.length (fun k a w' => Has a 37 [(1, iz at_), (2, .slice A xs.length c), (3, pz g3), (6, pz g6), (7, pz g7), (8, .func (.func 147) #[] #[pz g6, pz g7]), (15, .slice AP ps.length cP), (16, iz ps.length), (17, iz k)] ∧ Own w g3 (winB gA gH g7 g6 (layP nq win0 (ps.take k)) [(g3, [iz nq, .slice AP ps.length cP])]) w') ⟨H, by rw [List.take_zero]; exact O4⟩ ?_
 clear H O0 O1 O2 O3 O4
 rintro k a w5 hk ⟨H, O5⟩
 refine H.rg 0 fun a H => ?_
 by_cases hlt : k < ps.length
 rotate_left
 ·refine H.bb 0 rfl rfl rfl rfl rfl rfl (lss_i _ _ false (by rw [decide_eq_false_iff_not]; omega) _ _ _) rfl fun a H => nt (wp_seq (H.condF rfl ?_))
  refine wp_exit ?_
  repeat (with_reducible refine then_exit ?_)
  refine block_leave (then_normal ?_)
  have : k = ps.length := by omega
  subst this
  rw [List.take_length] at O5
  refine H.rg 3 fun a H => ?_
  refine H.cf (vs := [iz at_, .slice A xs.length c]) (cap := [pz g6, pz g7]) (R := fun _ w' => Own w g3 (winB gA gH g7 g6 (layG (layP nq win0 ps) at_ xs) [(g3, [iz nq, .slice AP ps.length cP])]) w') ((layW w g3 gA gH g7 g6 [(g3, [iz nq, .slice AP ps.length cP])] (layP nq win0 ps) (by rw [layP_len, hn0]) at_ xs A c hfit hr w5 O5).mono fun _ _ h => ⟨_, h.1, h.2⟩) ?_
  intro a _ w6 O6 H
  refine nt ?_
  obtain ⟨mm, hmm⟩ : ∃ mm, layG (layP nq win0 ps) at_ xs = mm := ⟨_, rfl⟩
  rw [hmm] at O6 ⊢
  refine H.sg (fun w' => Own w g3 (winB gA gH g7 g6 mm [(g3, [iz nq, .slice AP ps.length cP])]) w') O6.drew [6, 7] [ec 0 35 (.slice (some ⟨gH, 0, none⟩) 2048 2048), ec 1 36 (.slice (some ⟨gA, 0, none⟩) 2048 2048)] rfl ?_
  refine St.sto 2 ⟨jl fun _ h => load1_bs _ _ _ _ _ _ ((h.get 3 rfl).get 0 _ rfl), jl fun _ h => load1_31 _ _ _ _ _ _ ((h.get 2 rfl).get 0 _ rfl), trivial⟩ ?_
  intro a wu H _ Ou
  obtain ⟨c1, c2⟩ := (Ou.get 3 rfl) 0 _ rfl
  refine ⟨_, run_store rfl (H.ev rfl) (H.ev rfl) (store1_bs _ _ _ _ _ _ _ c1 c2), nx0 (fun w' => Own w g3 (winB gA gH g7 g6 mm [(g3, [iz nq, .slice AP ps.length cP])]) w') [] [] (Ou.turn 3 rfl (grown_setCell _ _ _ _) ((Ou.get 3 rfl).set 0 _ Nat.zero_lt_one)) ?_⟩
  refine St.sto 3 ⟨jl fun _ h => load1_31 _ _ _ _ _ _ ((h.get 2 rfl).get 0 _ rfl), trivial⟩ ?_
  intro a wu H _ Ou
  obtain ⟨c1, c2⟩ := (Ou.get 2 rfl) 0 _ rfl
  refine ⟨_, run_store rfl (H.ev rfl) (H.ev rfl) (store1_31 _ _ _ _ _ _ _ c1 c2), nx0 (fun w' => Own w g3 (winB gA gH g7 g6 mm [(g3, [iz nq, .slice AP ps.length cP])]) w') [] [] (Ou.turn 2 rfl (grown_setCell _ _ _ _) ((Ou.get 2 rfl).set 0 _ Nat.zero_lt_one)) ?_⟩
  refine St.fin trivial ?_
  intro a w7 H _ O7
  refine then_normal (wp_ret ?_)
  repeat (first | (with_reducible refine block_ret ?_) | (with_reducible refine then_ret ?_))
  exact bodyPost_ret (results_cc rfl _ (H.at_ 6 _ rfl) (H.at_ 7 _ rfl) (loadv_bs _ _ _ _ _ _ ((O7.get 3 rfl).get 0 _ rfl)) (loadv_us _ _ _ _ _ _ ((O7.get 2 rfl).get 0 _ rfl))) H.df ⟨_, rfl, gH, gA, rfl, O7.sub (List.take_sublist 2 (winB gA gH g7 g6 mm [(g3, [iz nq, .slice AP ps.length cP])]))⟩
 refine H.bb 0 rfl rfl rfl rfl rfl rfl (lss_i _ _ true (by rw [decide_eq_true_iff]; omega) _ _ _) rfl fun a H => nt (wp_seq (H.condT rfl ?_))
 refine skip_wp (then_normal ?_)
 obtain ⟨p, hp⟩ : ∃ p, ps[k]? = some p := ⟨_, List.getElem?_eq_getElem hlt⟩
 obtain ⟨hp1, hp2, hp3⟩ := hps p (List.mem_of_getElem? hp)
 obtain ⟨g, o, A', c', hAP, hgB, hrg, hrp⟩ := hP k p hp
 obtain ⟨mk, hmk⟩ : ∃ mk, layP nq win0 (ps.take k) = mk := ⟨_, rfl⟩
 have hml : mk.length = 2048 := by rw [← hmk, layP_len, hn0]
 have hnext := layP_take (nx := nq) (m := win0) hp
 obtain ⟨d, hd⟩ : ∃ d : Nat, spDiff p.1 nq = (d : Int) := ⟨(spDiff p.1 nq).toNat, by omega⟩
 rw [hmk] at O5 hnext
 rw [hd, Int.toNat_natCast] at hnext
 replace H := H.keep (l' := [(1, iz at_), (2, .slice A xs.length c), (3, pz g3), (6, pz g6), (7, pz g7), (8, .func (.func 147) #[] #[pz g6, pz g7]), (15, .slice (some ⟨g, o, none⟩) ps.length cP), (16, iz ps.length), (17, iz k)]) ⟨rfl, rfl, rfl, rfl, rfl, rfl, by rw [← hAP]; rfl, rfl, rfl, trivial⟩
 have kd := fun w => spanDiff p.1 nq (by omega) (by omega) w
 simp only [hd] at kd
 refine wp_seq_join (fun a w' => Has a 37 [(1, iz at_), (2, .slice A xs.length c), (3, pz g3), (6, pz g6), (7, pz g7), (8, .func (.func 147) #[] #[pz g6, pz g7]), (15, .slice AP ps.length cP), (16, iz ps.length), (17, iz k)] ∧ Own w g3 (winB gA gH g7 g6 (layG mk d p.2) [(g3, [iz nq, .slice AP ps.length cP])]) w') ?_ ?_
 rotate_left
 ·rintro a w' ⟨H, O⟩
  refine H.rg 0 fun a H => ?_
  refine H.bb 1 rfl rfl rfl rfl rfl rfl (succ_i k (by omega) _ _ _) rfl fun a H => nt ?_
  exact ⟨hlt, H.keep ⟨rfl, rfl, rfl, rfl, rfl, rfl, rfl, rfl, rfl, trivial⟩, by rw [hnext]; exact O⟩
 refine wp_block ?_
 refine H.rg 0 fun a H => ?_
 refine H.index gz rfl rfl rfl rfl rfl (index_m 102 Tryz.underlying102 2 (fun _ => by kernel_rfl) g o ps.length cP k hlt _) fun a H => ?_
 refine H.ld 0 (run_loadAt_mid w5 g (o + k * 2) 153 _ _ (rangeB hrg O5.bel hgB) Tryz.underlying153 rfl size_part) fun a H => ?_
 refine H.nk O5 0 (L := [iz p.1, .slice A' p.2.length c']) rfl zero_part size_part fun a w6 hb6 O6 _ H => nt ?_
 generalize w5.heap.size = gp at O6 H
 replace H := H.kp [1, 2, 3, 6, 7, 8, 10, 15, 16, 17]
 have O6' := O6.perm (bs' := winB gA gH g7 g6 mk [(gp, [iz p.1, .slice A' p.2.length c']), (g3, [iz nq, .slice AP ps.length cP])]) (List.perm_middle (l₁ := [(gA, allC mk), (gH, hasC mk), (g7, [Value.slice (some ⟨gA, 0, none⟩) 2048 2048]), (g6, [Value.slice (some ⟨gH, 0, none⟩) 2048 2048])])).symm
 refine H.sg (fun w' => Own w g3 (winB gA gH g7 g6 mk [(gp, [iz p.1, .slice A' p.2.length c']), (g3, [iz nq, .slice AP ps.length cP])]) w') O6'.drew [1, 2, 3, 6, 7, 8, 10, 15, 16, 17] [ec 0 21 (.func (.func 147) #[] #[pz g6, pz g7]), ec 1 22 (pz gp), ec 2 23 (iz p.1), ec 3 24 (pz g3), ec 4 25 (iz nq), ec 5 26 (iz d), ec 6 27 (.pointer (some ⟨gp, 1, none⟩)), ec 7 28 (.slice A' p.2.length c')] rfl ?_
 refine St.cf 8 (vs := [iz d, .slice A' p.2.length c']) (cap := [pz g6, pz g7]) (R := fun _ v w' => v = .tuple #[] ∧ Own w g3 (winB gA gH g7 g6 (layG mk d p.2) [(gp, [iz p.1, .slice A' p.2.length c']), (g3, [iz nq, .slice AP ps.length cP])]) w') ⟨jm, jm, jl fun _ h => h.li 4 0, jm, jl fun _ h => h.li 5 0, jq fun w' _ => kd w', jm, jl fun _ h => load1_31 _ _ _ _ _ _ ((h.get 4 rfl).get 1 _ rfl), trivial⟩ (fun wy h => (layW w g3 gA gH g7 g6 _ mk hml d p.2 A' c' (by omega) hrp wy h).mono fun _ _ h => ⟨_, h.1, rfl, h.2⟩) ?_
 rintro wy _ wz _ ⟨rfl, Oz⟩
 refine nx (fun w' => Own w g3 (winB gA gH g7 g6 (layG mk d p.2) [(gp, [iz p.1, .slice A' p.2.length c']), (g3, [iz nq, .slice AP ps.length cP])]) w') [] [] Oz ?_
 refine St.fin trivial ?_
 intro a w7 H _ O7
 refine block_normal (then_normal ?_)
 exact ⟨H.keep ⟨rfl, rfl, rfl, rfl, rfl, rfl, by rw [hAP]; rfl, rfl, rfl, trivial⟩, O7.sub (((((List.sublist_cons_self _ _).cons_cons _).cons_cons _).cons_cons _).cons_cons _)⟩
end
section
open Go.RowKit
inductive Runs (m : List (Option UInt8)) : Nat → List (Nat × List UInt8) → Prop
 | done {i : Nat} (h : ∀ j, i ≤ j → j < m.length → m[j]? = some none) : Runs m i []
 | run {i a b : Nat} {xs : List UInt8} {l : List (Nat × List UInt8)} (h1 : i ≤ a) (h2 : ∀ j, i ≤ j → j < a → m[j]? = some none) (h3 : a < b) (h4 : b ≤ m.length) (h5 : ∀ j, a ≤ j → j < b → ∃ x, m[j]? = some (some x) ∧ xs[j - a]? = some x) (h6 : xs.length = b - a) (h7 : b = m.length ∨ m[b]? = some none) (h : Runs m b l) : Runs m i ((a, xs) :: l)
def winY (m : List (Option UInt8)) : List UInt8 := m.map fun o => o.getD 0
theorem allC_eq (m : List (Option UInt8)) : allC m = (winY m).map bv := by
 unfold allC winY
 rw [List.map_map]
 rfl
theorem winY_len (m : List (Option UInt8)) : (winY m).length = m.length := List.length_map _
theorem rb_cells {w : World} {g B : Nat} {xs : List UInt8} (hC : Cells w g (xs.map bv)) (hg : g < B) : RB w B (some ⟨g, 0, none⟩) xs :=
 ⟨by rw [List.length_map, Nat.mul_one], fun _ => ⟨_, rfl, hg, fun j u hu => by rw [Addr.add_mid, Nat.zero_add]; exact hC.get j u hu⟩⟩
def PP (w : World) (b nq : Nat) (l : List (Nat × List UInt8)) (cs : List Value) : Prop :=
 cs.length = l.length * 2 ∧ ∀ k p, l[k]? = some p → ∃ v, cs[k * 2]? = some (iz (spAdd nq p.1 : Nat)) ∧ cs[k * 2 + 1]? = some v ∧ RowIs b p.2 v w
theorem RowIs.beneath {b : Nat} {xs : List UInt8} {v : Value} {w w' : World} (h : RowIs b xs v w) (hb : Below w.heap.size w w') : RowIs b xs v w' := by
 obtain ⟨A, c, e, h⟩ := h
 exact ⟨A, c, e, own_below h hb⟩
theorem RowIs.apart {b b' s n T : Nat} {xs : List UInt8} {v u : Value} {ys : List Value} {w w' : World} (h : RowIs b xs v w) (hO : w.ownsRow b' T s u n ys) (hg : w.grownBy w' u.ownBlock) (hT : Nat.beq 5 T = false) : RowIs b xs v w' := by
 obtain ⟨A, c, e, h⟩ := h
 exact ⟨A, c, e, h.kept hg (own_apart h hO hT)⟩
theorem PP.beneath {w w' : World} {b nq : Nat} {l : List (Nat × List UInt8)} {cs : List Value} (h : PP w b nq l cs) (hb : Below w.heap.size w w') : PP w' b nq l cs := by
 refine ⟨h.1, fun k p hk => ?_⟩
 obtain ⟨v, h1, h2, h3⟩ := h.2 k p hk
 exact ⟨v, h1, h2, h3.beneath hb⟩
theorem PP.apart {w w' : World} {b nq b' s n T : Nat} {l : List (Nat × List UInt8)} {cs ys : List Value} {u : Value} (h : PP w b nq l cs) (hO : w.ownsRow b' T s u n ys) (hg : w.grownBy w' u.ownBlock) (hT : Nat.beq 5 T = false) : PP w' b nq l cs := by
 refine ⟨h.1, fun k p hk => ?_⟩
 obtain ⟨v, h1, h2, h3⟩ := h.2 k p hk
 exact ⟨v, h1, h2, h3.apart hO hg hT⟩
theorem PP.snoc {w : World} {b nq : Nat} {l : List (Nat × List UInt8)} {cs : List Value} (h : PP w b nq l cs) {a : Nat} {xs : List UInt8} {v : Value} (hr : RowIs b xs v w) : PP w b nq (l ++ [(a, xs)]) (cs ++ [iz (spAdd nq a : Nat), v]) := by
 refine ⟨by rw [List.length_append, List.length_append, h.1]; simp only [List.length_cons, List.length_nil]; omega, fun k p hk => ?_⟩
 rcases Nat.lt_or_ge k l.length with hlt | hge
 ·rw [List.getElem?_append_left hlt] at hk
  obtain ⟨u, h1, h2, h3⟩ := h.2 k p hk
  exact ⟨u, by rw [List.getElem?_append_left (by rw [h.1]; omega)]; exact h1, by rw [List.getElem?_append_left (by rw [h.1]; omega)]; exact h2, h3⟩
 ·rw [List.getElem?_append_right hge] at hk
  have hk0 : k - l.length = 0 := by
   rcases Nat.eq_zero_or_pos (k - l.length) with h0 | h0
   ·exact h0
   ·rw [List.getElem?_eq_none (by simp only [List.length_singleton]; omega)] at hk; cases hk
  rw [hk0] at hk
  have hk : (a, xs) = p := by simpa using hk
  subst hk
  refine ⟨v, ?_, ?_, hr⟩
  ·rw [List.getElem?_append_right (by rw [h.1]; omega), show k * 2 - cs.length = 0 by rw [h.1]; omega]; rfl
  ·rw [List.getElem?_append_right (by rw [h.1]; omega), show k * 2 + 1 - cs.length = 1 by rw [h.1]; omega]; rfl
theorem slice_clip (A : Option Addr) (n c : Nat) (h3 : n ≤ c) (w : World) : (Instr.sliceAt 102 (.slice A n c) none (some (iz n)) (some (iz n))).run Tryz.prog w = .ok (.slice A n n) w := by
 simp [go_sem]
 omega
theorem partsClip (A : Option Addr) (n c : Nat) (h3 : n ≤ c) (w : World) : Calls Tryz.prog 127 #[.slice A n c] w fun e w' => e = .returned (.slice A n n) ∧ w = w' := by
 go_enter Tryz.func127, Tryz.ntmps127
 refine Has.start 9 [(0, .slice A n c)] rfl rfl ⟨rfl, trivial⟩ ?_
 intro a0 H0
 refine H0.rg 1 fun a H => nt ?_
 refine H.rg 2 fun a H => ?_
 refine H.len gz rfl rfl rfl rfl Tryz.underlying102 fun a H => ?_
 refine H.ms 1 fun a H => ?_
 refine H.len gz rfl rfl rfl rfl Tryz.underlying102 fun a H => ?_
 refine H.go (w' := w) gz rfl rfl (.slice A n n) (by
  unfold execOp
  simp only [H.ev (x := .tmp 3) rfl, H.ev (x := .tmp 5) rfl, H.ev (x := .tmp 7) rfl, Option.map_some, Option.map_none, Sem.run_bind, slice_clip A n c h3, Result.andThen_ok, Sem.run_pure]) fun a H => ?_
 refine H.ms 1 fun a H => nt (wp_ret ?_)
 repeat (first | (with_reducible refine block_ret ?_) | (with_reducible refine then_ret ?_))
 exact bodyPost_ret (results_tmp rfl _ _ _) H.df ⟨congrArg Ending.returned (H.at_ 2 _ rfl), rfl⟩
theorem info_part : (Tryz.prog.info? 153).map (fun i => (i.zero, i.size, i.bytes)) = some (some (.agg #[iz 0, nilV]), 2, 32) := by kernel_rfl
theorem cloneR (y : List UInt8) (n : Nat) (hn : y.length = n) (A : Option Addr) (c : Nat) (w : World) (hx : RB w w.heap.size A y) (hl : n ≤ 140737488351232) :
  Calls Tryz.prog 80 #[.slice A n c] w fun e w' => ∃ v, e = .returned v ∧ ∃ A' c', v = .slice A' n c' ∧ w'.ownsRow w.heap.size 5 1 (.slice A' n c') n (y.map bv) ∧ Below w.heap.size w w' :=
 (clone y n hn A c w hx hl).mono fun _ _ ⟨A', c', h1, h2, h3⟩ => ⟨_, h1, A', c', rfl, h2, h3⟩
end
section
open Go.RowKit
def muParts (a : Act) : Nat := match a.tmps.getD 7 undef with
 | .int _ i => (2048 - i).toNat
 | _ => 0
def PF (W : World) (nq : Nat) (l : List (Nat × List UInt8)) (cs : List Value) (v : Value) (w : World) : Prop :=
 Below W.heap.size W w ∧ w.ownsRow W.heap.size 153 2 v l.length cs ∧ PP w W.heap.size nq l cs
theorem PF.next {W w w' : World} {nq : Nat} {l : List (Nat × List UInt8)} {cs : List Value} {v : Value} (h : PF W nq l cs v w) (hb : Below w.heap.size w w') : PF W nq l cs v w' :=
 ⟨h.1.trans (hb.mono h.1.size), own_below h.2.1 hb, h.2.2.beneath hb⟩
structure PartsJ (W : World) (nq gH gA : Nat) (m : List (Option UInt8)) (a : Act) (w : World) (i : Nat) (l : List (Nat × List UInt8)) (cs : List Value) (v : Value) : Prop where
 at_ : Has a 52 [(0, iz nq), (1, .slice (some ⟨gH, 0, none⟩) 2048 2048), (2, .slice (some ⟨gA, 0, none⟩) 2048 2048), (6, v), (7, iz i)]
 hi : i ≤ 2048
 len : l.length ≤ i
 fed : ∀ {l2 : List (Nat × List UInt8)}, Runs m i l2 → Runs m 0 (l ++ l2)
 pf : PF W nq l cs v w
theorem reasmParts (nq gH gA : Nat) (m : List (Option UInt8)) (hm : m.length = 2048) (w : World) (hq : nq ≤ 4294967295) (hgH : gH < w.heap.size) (hgA : gA < w.heap.size) (hH : Cells w gH (hasC m)) (hA : Cells w gA (allC m)) :
  Calls Tryz.prog 126 #[iz nq, .slice (some ⟨gH, 0, none⟩) 2048 2048, .slice (some ⟨gA, 0, none⟩) 2048 2048] w fun e w' => ∃ v, e = .returned v ∧ ∃ l cs, Runs m 0 l ∧ l.length ≤ 2048 ∧ PF w nq l cs v w' := by
 go_enter Tryz.func126, Tryz.ntmps126
 refine Has.start 52 [(0, iz nq), (1, .slice (some ⟨gH, 0, none⟩) 2048 2048), (2, .slice (some ⟨gA, 0, none⟩) 2048 2048)] rfl rfl ⟨rfl, rfl, rfl, trivial⟩ ?_
 intro a0 H0
 have hH1 : ∀ {l cs v w'}, PF w nq l cs v w' → Cells w' gH (hasC m) := fun h => hH.below h.1 hgH
 have hA1 : ∀ {l cs v w'}, PF w nq l cs v w' → Cells w' gA (allC m) := fun h => hA.below h.1 hgA
 refine H0.rg 1 fun a H => nt ?_
 refine wp_scope_one (k := 0) rfl (fun a w' => ∃ i l cs v, PartsJ w nq gH gA m a w' i l cs v) (fun a _ => muParts a) ?_ ?_
 ·intro hpass
  refine H.rg 2 fun a H => nt ?_
  refine wp_seq (label_wp (then_normal ?_))
  exact hpass _ _ ⟨0, [], [], nilV, H.keep ⟨rfl, rfl, rfl, rfl, rfl, trivial⟩, by decide, Nat.le_refl _, fun h => h, Below.refl _ _, World.ownsRow_nil _ _ _ _, rfl, fun k p h => by simp at h⟩
 clear H0 H
 rintro a w1 ⟨i0, l, cs, v, H, hi0, hlen, hfed, hF⟩
 have hmu : muParts a = 2048 - i0 := by unfold muParts; rw [show a.tmps.getD 7 undef = iz i0 from H.at_ 7 _ rfl]; show (2048 - (i0 : Int)).toNat = _; omega
 rw [hmu]
 refine wp_seq_join (fun a w' => PF w nq l cs v w' ∧ ∃ i : Nat, Has a 52 [(0, iz nq), (1, .slice (some ⟨gH, 0, none⟩) 2048 2048), (2, .slice (some ⟨gA, 0, none⟩) 2048 2048), (6, v), (7, iz i)] ∧ i0 ≤ i ∧ i ≤ 2048 ∧ (∀ j : Nat, i0 ≤ j → j < i → m[j]? = some none) ∧ (i = 2048 ∨ ∃ x, m[i]? = some (some x))) ?_ ?_
 ·refine wp_block ?_
  refine wp_loop_up (2048 - i0) (fun k a w' => PF w nq l cs v w' ∧ Has a 52 [(0, iz nq), (1, .slice (some ⟨gH, 0, none⟩) 2048 2048), (2, .slice (some ⟨gA, 0, none⟩) 2048 2048), (6, v), (7, iz ((i0 + k : Nat) : Int))] ∧ i0 + k ≤ 2048 ∧ (∀ j : Nat, i0 ≤ j → j < i0 + k → m[j]? = some none)) ⟨hF, H, hi0, fun j h1 h2 => absurd h2 (by omega)⟩ ?_
  clear H hF
  rintro k a w2 hk ⟨hF, H, hle, hno⟩
  obtain ⟨i, hik⟩ : ∃ i, i0 + k = i := ⟨_, rfl⟩
  rw [hik] at H hle hno
  by_cases hlt : i < 2048
  rotate_left
  ·refine H.tb (PF w nq l cs v) (fun _ _ h hb => h.next hb) hF [ec 0 9 (iz i), ec 1 10 (.slice (some ⟨gH, 0, none⟩) 2048 2048), ec 2 11 (iz ((2048 : Nat) : Int)), ec 3 12 (.bool false), ec 4 13 (.bool false), ec 5 14 undef, ec 6 15 undef, ec 7 16 undef, ec 8 17 undef, ec 9 18 undef, ec 10 19 (.bool false)] rfl ⟨jm, jm, jn Tryz.underlying151, jb fun _ => lss_i (i : Int) ((2048 : Nat) : Int) false (by rw [decide_eq_false_iff_not]; omega) _ _ _, jm, jo, jo, jo, jo, jo, jp, trivial⟩ ?_
   intro a w3 H hF
   refine then_normal (H.condF rfl ?_)
   refine wp_exit ?_
   repeat (with_reducible refine then_exit ?_)
   refine block_leave (then_normal ?_)
   exact ⟨hF, i, H.keep ⟨rfl, rfl, rfl, rfl, rfl, trivial⟩, by omega, hle, hno, .inl (by omega)⟩
  obtain ⟨od, hod⟩ : ∃ od, m[i]? = some od := ⟨_, List.getElem?_eq_getElem (by omega)⟩
  obtain ⟨z, hz⟩ : ∃ z, od.isSome = z := ⟨_, rfl⟩
  have hcell := hasC_at hod
  rw [hz] at hcell
  refine H.tb (PF w nq l cs v) (fun _ _ h hb => h.next hb) hF [ec 0 9 (iz i), ec 1 10 (.slice (some ⟨gH, 0, none⟩) 2048 2048), ec 2 11 (iz ((2048 : Nat) : Int)), ec 3 12 (.bool true), ec 4 13 (.bool true), ec 5 14 (.slice (some ⟨gH, 0, none⟩) 2048 2048), ec 6 15 (iz i), ec 7 16 (.pointer (some ⟨gH, i, none⟩)), ec 8 17 (.bool z), ec 9 18 (.bool (!z)), ec 10 19 (.bool (!z))] rfl ⟨jm, jm, jn Tryz.underlying151, jb fun _ => lss_i (i : Int) ((2048 : Nat) : Int) true (by rw [decide_eq_true_iff]; omega) _ _ _, jm, jm, jm, jI rfl rfl rfl rfl rfl rfl (index_bs gH 2048 2048 i hlt), jl fun _ h => load1_b _ _ _ _ ((hH1 h).get i _ hcell), ju (hq := run_not z), jp, trivial⟩ ?_
  intro a w3 H hF
  cases od with
  | some x =>
   subst hz
   refine then_normal (H.condF rfl ?_)
   refine wp_exit ?_
   repeat (with_reducible refine then_exit ?_)
   refine block_leave (then_normal ?_)
   exact ⟨hF, i, H.keep ⟨rfl, rfl, rfl, rfl, rfl, trivial⟩, by omega, hle, hno, .inr ⟨x, hod⟩⟩
  | none =>
   subst hz
   refine then_normal (H.condT rfl (skip_wp (then_normal ?_)))
   replace H := H.kp [0, 1, 2, 6, 7]
   refine wp_block ?_
   refine H.rg 1 fun a H => ?_
   refine H.bb 1 rfl rfl rfl rfl rfl rfl (succ_i i (by omega) _ _ _) rfl fun a H => wpList_nil ?_
   refine block_normal (then_normal ?_)
   refine ⟨by omega, hF, (by rw [← Nat.add_assoc, hik]; exact H.keep ⟨rfl, rfl, rfl, rfl, rfl, trivial⟩), by omega, fun j h1 h2 => ?_⟩
   rcases Nat.lt_or_ge j i with h | h
   ·exact hno j h1 h
   ·rw [show j = i by omega]; exact hod
 clear H hF
 rintro a w2 ⟨hF, i, H, hi1, hi2, hno, hor⟩
 refine H.rg 2 fun a H => ?_
 refine H.len gz rfl rfl rfl rfl Tryz.underlying151 fun a H => ?_
 by_cases hend : i = 2048
 ·refine H.bb 0 rfl rfl rfl rfl rfl rfl (eql_iB (i : Int) ((2048 : Nat) : Int) true (by rw [beq_iff_eq]; omega) _ _ _) rfl fun a H => nt (H.condT rfl ?_)
  refine H.rg 2 fun a H => nt (wp_ret ?_)
  repeat (first | (with_reducible refine jump_ret ?_) | (with_reducible refine then_ret ?_))
  refine bodyPost_ret (results_tmp rfl _ _ _) H.df ⟨_, congrArg Ending.returned (H.at_ 6 _ rfl), l, cs, ?_, by omega, hF⟩
  rw [← List.append_nil l]
  exact hfed (.done fun j h1 h2 => hno j h1 (by omega))
 obtain ⟨x0, hx0⟩ : ∃ x, m[i]? = some (some x) := hor.resolve_left hend
 refine H.bb 0 rfl rfl rfl rfl rfl rfl (eql_iB (i : Int) ((2048 : Nat) : Int) false (by rw [beq_eq_false_iff_ne]; omega) _ _ _) rfl fun a H => nt (H.condF rfl (skip_wp (then_normal ?_)))
 replace H := H.kp [0, 1, 2, 6, 7]
 refine H.rg 2 fun a H => nt ?_
 replace H := H.kp [0, 1, 2, 6, 7, 8]
 refine wp_seq_join (fun a w' => PF w nq l cs v w' ∧ ∃ b : Nat, Has a 52 [(0, iz nq), (1, .slice (some ⟨gH, 0, none⟩) 2048 2048), (2, .slice (some ⟨gA, 0, none⟩) 2048 2048), (6, v), (7, iz b), (8, iz i)] ∧ i < b ∧ b ≤ 2048 ∧ (∀ j : Nat, i ≤ j → j < b → ∃ x, m[j]? = some (some x)) ∧ (b = 2048 ∨ m[b]? = some none)) ?_ ?_
 ·refine wp_block ?_
  refine wp_loop_up (2048 - i) (fun k a w' => PF w nq l cs v w' ∧ Has a 52 [(0, iz nq), (1, .slice (some ⟨gH, 0, none⟩) 2048 2048), (2, .slice (some ⟨gA, 0, none⟩) 2048 2048), (6, v), (7, iz ((i + k : Nat) : Int)), (8, iz i)] ∧ i + k ≤ 2048 ∧ (∀ j : Nat, i ≤ j → j < i + k → ∃ x, m[j]? = some (some x))) ⟨hF, H, hi2, fun j h1 h2 => absurd h2 (by omega)⟩ ?_
  clear H hF
  rintro k a w2 hk ⟨hF, H, hle, hyes⟩
  obtain ⟨b, hik⟩ : ∃ b, i + k = b := ⟨_, rfl⟩
  rw [hik] at H hle hyes
  by_cases hlt : b < 2048
  rotate_left
  ·refine H.tb (PF w nq l cs v) (fun _ _ h hb => h.next hb) hF [ec 0 28 (iz b), ec 1 29 (.slice (some ⟨gH, 0, none⟩) 2048 2048), ec 2 30 (iz ((2048 : Nat) : Int)), ec 3 31 (.bool false), ec 4 32 (.bool false), ec 5 33 undef, ec 6 34 undef, ec 7 35 undef, ec 8 36 undef, ec 9 37 (.bool false)] rfl ⟨jm, jm, jn Tryz.underlying151, jb fun _ => lss_i (b : Int) ((2048 : Nat) : Int) false (by rw [decide_eq_false_iff_not]; omega) _ _ _, jm, jo, jo, jo, jo, jp, trivial⟩ ?_
   intro a w3 H hF
   refine then_normal (H.condF rfl ?_)
   refine wp_exit ?_
   repeat (with_reducible refine then_exit ?_)
   refine block_leave (then_normal ?_)
   exact ⟨hF, b, H.keep ⟨rfl, rfl, rfl, rfl, rfl, rfl, trivial⟩, by omega, hle, hyes, .inl (by omega)⟩
  obtain ⟨od, hod⟩ : ∃ od, m[b]? = some od := ⟨_, List.getElem?_eq_getElem (by omega)⟩
  obtain ⟨z, hz⟩ : ∃ z, od.isSome = z := ⟨_, rfl⟩
  have hcell := hasC_at hod
  rw [hz] at hcell
  refine H.tb (PF w nq l cs v) (fun _ _ h hb => h.next hb) hF [ec 0 28 (iz b), ec 1 29 (.slice (some ⟨gH, 0, none⟩) 2048 2048), ec 2 30 (iz ((2048 : Nat) : Int)), ec 3 31 (.bool true), ec 4 32 (.bool true), ec 5 33 (.slice (some ⟨gH, 0, none⟩) 2048 2048), ec 6 34 (iz b), ec 7 35 (.pointer (some ⟨gH, b, none⟩)), ec 8 36 (.bool z), ec 9 37 (.bool z)] rfl ⟨jm, jm, jn Tryz.underlying151, jb fun _ => lss_i (b : Int) ((2048 : Nat) : Int) true (by rw [decide_eq_true_iff]; omega) _ _ _, jm, jm, jm, jI rfl rfl rfl rfl rfl rfl (index_bs gH 2048 2048 b hlt), jl fun _ h => load1_b _ _ _ _ ((hH1 h).get b _ hcell), jp, trivial⟩ ?_
  intro a w3 H hF
  cases od with
  | none =>
   subst hz
   refine then_normal (H.condF rfl ?_)
   refine wp_exit ?_
   repeat (with_reducible refine then_exit ?_)
   refine block_leave (then_normal ?_)
   refine ⟨hF, b, H.keep ⟨rfl, rfl, rfl, rfl, rfl, rfl, trivial⟩, ?_, hle, hyes, .inr hod⟩
   rcases Nat.lt_or_ge i b with h | h
   ·exact h
   ·rw [show i = b by omega, hod] at hx0; cases hx0
  | some x =>
   subst hz
   refine then_normal (H.condT rfl (skip_wp (then_normal ?_)))
   replace H := H.kp [0, 1, 2, 6, 7, 8]
   refine wp_block ?_
   refine H.rg 1 fun a H => ?_
   refine H.bb 1 rfl rfl rfl rfl rfl rfl (succ_i b (by omega) _ _ _) rfl fun a H => wpList_nil ?_
   refine block_normal (then_normal ?_)
   refine ⟨by omega, hF, (by rw [← Nat.add_assoc, hik]; exact H.keep ⟨rfl, rfl, rfl, rfl, rfl, rfl, trivial⟩), by omega, fun j h1 h2 => ?_⟩
   rcases Nat.lt_or_ge j b with h | h
   ·exact hyes j h1 h
   ·rw [show j = b by omega]; exact ⟨x, hod⟩
 clear H hF
 rintro a w2 ⟨hF, b, H, hib, hb2, hyes, hbor⟩
 have hwy : (winY m).length = 2048 := by rw [winY_len, hm]
 obtain ⟨y, hy⟩ : ∃ y, ((winY m).drop i).take (b - i) = y := ⟨_, rfl⟩
 have hyl : y.length = b - i := by rw [← hy, List.length_take, List.length_drop]; omega
 have hget : ∀ j, i ≤ j → j < b → ∃ x, m[j]? = some (some x) ∧ y[j - i]? = some x := by
  intro j h1 h2
  obtain ⟨x, hx⟩ := hyes j h1 h2
  refine ⟨x, hx, ?_⟩
  rw [← hy, List.getElem?_take, if_pos (by omega), List.getElem?_drop, show i + (j - i) = j by omega]
  unfold winY
  rw [List.getElem?_map, hx]
  rfl
 have hfed2 : ∀ {l2 : List (Nat × List UInt8)}, Runs m b l2 → Runs m 0 ((l ++ [(i, y)]) ++ l2) := by
  intro l2 h
  rw [List.append_assoc]
  exact hfed (.run hi1 hno hib (by omega) hget hyl (by rw [hm]; exact hbor) h)
 have hsq := spanAdd nq i (by omega) (by omega)
 refine H.sg (PF w nq l cs v) (hF.next (Below.drew (Below.refl _ _))) [0, 1, 2, 6, 7, 8] [ec 0 40 v, ec 1 41 (iz nq), ec 2 42 (iz i), ec 3 43 (iz (spAdd nq i : Nat)), ec 4 44 (.slice (some ⟨gA, 0, none⟩) 2048 2048), ec 5 45 (iz i), ec 6 46 (iz b), ec 7 47 (.slice (if 2048 = i then some ⟨gA, 0, none⟩ else (some ⟨gA, 0, none⟩ : Option Addr).map (·.add i)) (b - i) (2048 - i))] rfl ?_
 refine St.call 8 ⟨jm, jm, jm, jq fun w' _ => hsq w', jm, jm, jm, js2 fun _ => slice_lh (some ⟨gA, 0, none⟩) 2048 2048 i b (by omega) (by omega) (by omega) _, trivial⟩ (fun wy h => cloneR y (b - i) hyl _ (2048 - i) wy (hy ▸ ((rb_cells (allC_eq m ▸ hA1 h) (Nat.lt_of_lt_of_le hgA h.1.size)).cut (k := i) (cap := 2048) (by omega) (by omega)).take (b - i)) (by omega)) ?_
 rintro wy _ wz h ⟨A', c', rfl, hOz, hbz⟩
 refine nx (fun w' => PF w nq l cs v w' ∧ RowIs w.heap.size y (.slice A' (b - i) c') w') [ec 9 49 (.agg #[iz (spAdd nq i : Nat), .slice A' (b - i) c'])] [] ⟨h.next hbz, RowIs.of hyl (own_base hOz h.1.size)⟩ ?_
 refine St.val 10 ⟨ja fun _ => by kernel_rfl, jm, trivial⟩ ?_
 intro a wx H _ h
 refine ⟨.slice (some ⟨wx.heap.size, 0, none⟩) 1 1, wx.alloc (.cells #[iz (spAdd nq i : Nat), .slice A' (b - i) c'] 153), run_any H (by intro cs b h; cases h) (by kernel_rfl) (by kernel_rfl), ?_⟩
 generalize hgl : wx.heap.size = gl
 refine nx (fun w' => (PF w nq l cs v w' ∧ RowIs w.heap.size y (.slice A' (b - i) c') w') ∧ Reads w' w'.heap.size 2 (some ⟨gl, 0, none⟩) 1 [iz (spAdd nq i : Nat), .slice A' (b - i) c']) [] [] ⟨⟨h.1.next (balloc _ _), h.2.beneath (balloc _ _)⟩, by subst hgl; exact Reads.lit wx 153 _ (0, 0) 2 1 rfl⟩ ?_
 refine St.app 11 info_part ⟨jm, trivial⟩ (fun _ h => ⟨h.1.1.2.1, h.2, h.1.1.1.size⟩) (fun u hu => List.all_eq_true.1 (show ([iz (spAdd nq i : Nat), .slice A' (b - i) c'] : List Value).all (·.oneCell') = true from rfl) u hu) ⟨by unfold maxLen; omega, by omega⟩ ?_
 intro wx A2 c2 w' h hO hg
 refine nx (PF w nq (l ++ [(i, y)]) (cs ++ [iz (spAdd nq i : Nat), .slice A' (b - i) c']) (.slice A2 (l.length + 1) c2)) [] [] ⟨h.1.1.1.grown hg h.1.1.1.size fun k hk => (h.1.1.2.1.lt k hk).1, by rw [List.length_append]; exact hO, (h.1.1.2.2.apart h.1.1.2.1 hg rfl).snoc (h.1.2.apart h.1.1.2.1 hg rfl)⟩ ?_
 refine St.less [(0, iz nq), (1, .slice (some ⟨gH, 0, none⟩) 2048 2048), (2, .slice (some ⟨gA, 0, none⟩) 2048 2048), (7, iz b), (8, iz i)] (fun _ h => ⟨h.1, h.2.1, h.2.2.1, h.2.2.2.2.1, h.2.2.2.2.2.1, trivial⟩) ?_
 refine St.val 12 trivial fun a w' H _ hF => ⟨_, w', run_move (.inr rfl) (H.ev rfl), nx (PF w nq (l ++ [(i, y)]) (cs ++ [iz (spAdd nq i : Nat), .slice A' (b - i) c']) (.slice A2 (l.length + 1) c2)) [] [] hF (St.fin trivial ?_)⟩
 intro a w' H _ hF
 refine then_normal (wp_goto ?_)
 repeat (with_reducible refine then_goto ?_)
 refine jump_goto ⟨⟨b, l ++ [(i, y)], _, _, H.keep ⟨rfl, rfl, rfl, rfl, rfl, trivial⟩, hb2, by rw [List.length_append, List.length_singleton]; omega, hfed2, hF⟩, ?_⟩
 unfold muParts
 rw [show a.tmps.getD 7 undef = iz b from H.at_ 7 _ rfl]
 show (2048 - (b : Int)).toNat < 2048 - i0
 omega
end
section
open Go.RowKit
def putSeq (nq : Nat) (l : List (Nat × List UInt8)) : List (Nat × List UInt8) := l.map fun p => (spAdd nq p.1, p.2)
def putRest (nq : Nat) : List (Nat × List UInt8) → List (Nat × List UInt8)
 | [] => []
 | (a, x) :: r => bif spAdd nq a == nq then r else (a, x) :: r
def putTold (nq : Nat) : List (Nat × List UInt8) → List UInt8
 | [] => []
 | (a, x) :: _ => bif spAdd nq a == nq then x else []
def putNext (nq : Nat) : List (Nat × List UInt8) → Nat
 | [] => nq
 | (a, x) :: _ => bif spAdd nq a == nq then spAdd nq x.length else nq
theorem putRest_c (nq p : Nat) (x : List UInt8) (r : List (Nat × List UInt8)) : putRest nq ((p, x) :: r) = bif spAdd nq p == nq then r else (p, x) :: r := rfl
theorem putTold_c (nq p : Nat) (x : List UInt8) (r : List (Nat × List UInt8)) : putTold nq ((p, x) :: r) = bif spAdd nq p == nq then x else [] := rfl
theorem putNext_c (nq p : Nat) (x : List UInt8) (r : List (Nat × List UInt8)) : putNext nq ((p, x) :: r) = bif spAdd nq p == nq then spAdd nq x.length else nq := rfl
def PutG (nq : Nat) (ps : List (Nat × List UInt8)) (sq : Nat) (xs : List UInt8) (nq' : Nat) (ps' : List (Nat × List UInt8)) (told : List UInt8) : Prop :=
 (wiTake (spDiff sq nq) xs = [] ∧ nq' = nq ∧ ps' = ps ∧ told = []) ∨
 (wiTake (spDiff sq nq) xs ≠ [] ∧ ∃ l, Runs (layG (layP nq win0 ps) (wiAt (spDiff sq nq)) (wiTake (spDiff sq nq) xs)) 0 l ∧
  ((8 < (putRest nq l).length ∧ nq' = nq ∧ ps' = ps ∧ told = []) ∨ ((putRest nq l).length ≤ 8 ∧ nq' = putNext nq l ∧ ps' = putSeq nq (putRest nq l) ∧ told = putTold nq l)))
theorem lay1c_keep {m : List (Option UInt8)} {i j : Nat} {x y : UInt8} (h : m[j]? = some (some y)) : (lay1c m i x)[j]? = some (some y) := by
 unfold lay1c
 split
 ·next hn =>
  rw [List.getElem?_set]
  by_cases e : i = j
  ·subst e
   rw [hn] at h
   cases h
  ·rw [if_neg e]; exact h
 ·exact h
theorem layG_keep : ∀ {xs : List UInt8} {m : List (Option UInt8)} {i j : Nat} {y : UInt8}, m[j]? = some (some y) → (layG m i xs)[j]? = some (some y)
 | [], _, _, _, _, h => h
 | _ :: _, _, _, _, _, h => by
  rw [layG]
  exact layG_keep (lay1c_keep h)
theorem lay1c_at {m : List (Option UInt8)} {i : Nat} (x : UInt8) (h : i < m.length) : ∃ y, (lay1c m i x)[i]? = some (some y) := by
 unfold lay1c
 split
 ·exact ⟨x, by rw [List.getElem?_set, if_pos rfl, if_pos h]⟩
 ·next hn =>
  rw [List.getElem?_eq_getElem h] at hn ⊢
  cases hx : m[i] with
  | none => rw [hx] at hn; exact absurd rfl hn
  | some y => exact ⟨y, rfl⟩
theorem runs_some {m : List (Option UInt8)} {j : Nat} {y : UInt8} (h : m[j]? = some (some y)) (hl : j < m.length) : ¬ Runs m 0 [] := by
 intro hr
 cases hr with
 | done h' => rw [h' j (Nat.zero_le _) hl] at h; cases h
def RBS (w : World) (S : Nat → Prop) (A : Option Addr) (xs : List UInt8) : Prop := 0 < xs.length → ∃ ad : Addr, A = some ad ∧ S ad.block ∧ ad.block < w.heap.size ∧ ∀ j u, (xs.map bv)[j]? = some u → w.cell? (ad.add j) = some u
theorem RBS.rb {w : World} {S : Nat → Prop} {A : Option Addr} {xs : List UInt8} (h : RBS w S A xs) : RB w w.heap.size A xs := by
 refine ⟨by rw [List.length_map, Nat.mul_one], fun hn => ?_⟩
 obtain ⟨ad, h1, _, h3, h4⟩ := h hn
 exact ⟨ad, h1, h3, h4⟩
theorem RBS.mono {w : World} {S S' : Nat → Prop} {A : Option Addr} {xs : List UInt8} (h : RBS w S A xs) (hS : ∀ k, k < w.heap.size → S k → S' k) : RBS w S' A xs := by
 intro hn
 obtain ⟨ad, h1, h2, h3, h4⟩ := h hn
 exact ⟨ad, h1, hS _ h3 h2, h3, h4⟩
theorem RBS.grown {w w' : World} {S : Nat → Prop} {A : Option Addr} {xs : List UInt8} {r : Option Nat} (h : RBS w S A xs) (hg : w.grownBy w' r) (hr : ∀ k, r = some k → ¬ S k) : RBS w' S A xs := by
 intro hn
 obtain ⟨ad, h1, h2, h3, h4⟩ := h hn
 refine ⟨ad, h1, h2, Nat.lt_of_lt_of_le h3 hg.size, fun j u hu => ?_⟩
 have hb : (ad.add j).block = ad.block := block_of_add ..
 exact hg.cell (h4 j u hu) (by rw [hb]; exact fun e => hr _ e.symm h2)
def SP (b : Nat) (w : World) (k : Nat) : Prop := b ≤ k ∧ ¬ TypB w k 104
theorem RBS.of_row {w : World} {b n c : Nat} {A : Option Addr} {xs : List UInt8} (h : w.ownsRow b 5 1 (.slice A n c) n (xs.map bv)) (hn : xs.length = n) : RBS w (SP b w) A xs := by
 intro hp
 rw [hn] at hp
 obtain ⟨g, cap, hv, _, hlt⟩ := h.form hp
 injection hv with hA _ _
 subst hA
 have hb := (h.lt g rfl).1
 exact ⟨_, rfl, ⟨hb, fun ht => ht.far h rfl rfl⟩, hlt, h.cells (g := g) rfl⟩
def PartsS (w : World) (S : Nat → Prop) (AP : Option Addr) (ps : List (Nat × List UInt8)) : Prop :=
 ∀ k p, ps[k]? = some p → ∃ g o A c, AP = some ⟨g, o, none⟩ ∧ S g ∧ g < w.heap.size ∧ w.rangeAt g (o + k * 2) [iz p.1, .slice A p.2.length c] ∧ RBS w S A p.2
theorem PartsS.at_ {w : World} {S : Nat → Prop} {AP : Option Addr} {ps : List (Nat × List UInt8)} (h : PartsS w S AP ps) : PartsAt w w.heap.size AP ps := by
 intro k p hk
 obtain ⟨g, o, A, c, h1, _, h3, h4, h5⟩ := h k p hk
 exact ⟨g, o, A, c, h1, h3, h4, h5.rb⟩
theorem PartsS.mono {w : World} {S S' : Nat → Prop} {AP : Option Addr} {ps : List (Nat × List UInt8)} (h : PartsS w S AP ps) (hS : ∀ k, k < w.heap.size → S k → S' k) : PartsS w S' AP ps := by
 intro k p hk
 obtain ⟨g, o, A, c, h1, h2, h3, h4, h5⟩ := h k p hk
 exact ⟨g, o, A, c, h1, hS _ h3 h2, h3, h4, h5.mono hS⟩
theorem PartsS.grown {w w' : World} {S : Nat → Prop} {AP : Option Addr} {ps : List (Nat × List UInt8)} {r : Option Nat} (h : PartsS w S AP ps) (hg : w.grownBy w' r) (hr : ∀ k, r = some k → ¬ S k) : PartsS w' S AP ps := by
 intro k p hk
 obtain ⟨g, o, A, c, h1, h2, h3, h4, h5⟩ := h k p hk
 refine ⟨g, o, A, c, h1, h2, Nat.lt_of_lt_of_le h3 hg.size, fun j u hu => ?_, h5.grown hg hr⟩
 exact hg.cell (h4 j u hu) (fun e => hr _ e.symm h2)
theorem PartsS.of_row {w : World} {b nq n c : Nat} {A : Option Addr} {l : List (Nat × List UInt8)} {cs : List Value} (hO : w.ownsRow b 153 2 (.slice A n c) n cs) (hP : PP w b nq l cs) : PartsS w (SP b w) A (putSeq nq l) := by
 have hr := Reads.of_own hO
 intro k p hk
 unfold putSeq at hk
 rw [List.getElem?_map] at hk
 cases hl : l[k]? with
 | none => rw [hl] at hk; cases hk
 | some q =>
  rw [hl] at hk
  injection hk with hk
  subst hk
  obtain ⟨v, h1, h2, h3⟩ := hP.2 k q hl
  have hkl : k < l.length := (List.getElem?_eq_some_iff.1 hl).1
  have hnn : 0 < n := by
   have := hr.1
   rw [hP.1] at this
   omega
  obtain ⟨g, cap, hv, _, hlt⟩ := hO.form hnn
  injection hv with hA _ _
  subst hA
  obtain ⟨ad, e, _, hcell⟩ := hr.2 hnn
  injection e with e
  subst e
  obtain ⟨A', c', rfl, h4⟩ := h3
  refine ⟨g, 0, A', c', rfl, ⟨(hO.lt g rfl).1, fun ht => ht.far hO rfl rfl⟩, hlt, ?_, RBS.of_row h4 rfl⟩
  intro j u hu
  have hj : j < 2 := (List.getElem?_eq_some_iff.1 hu).1
  rcases Nat.lt_or_ge j 1 with h0 | h0
  ·have e0 : j = 0 := by omega
   subst e0
   injection hu with hu
   subst hu
   have := hcell _ _ h1
   rw [Addr.add_mid] at this
   exact this
  ·have e0 : j = 1 := by omega
   subst e0
   injection hu with hu
   subst hu
   have := hcell _ _ h2
   rw [Addr.add_mid] at this
   rw [Nat.add_assoc]
   exact this
theorem PartsS.tail {w : World} {S : Nat → Prop} {g o : Nat} {p : Nat × List UInt8} {ps : List (Nat × List UInt8)} (h : PartsS w S (some ⟨g, o, none⟩) (p :: ps)) : PartsS w S (some ⟨g, o + 2, none⟩) ps := by
 intro k q hk
 obtain ⟨g', o', A, c, h1, h2, h3, h4, h5⟩ := h (k + 1) q hk
 injection h1 with h1
 injection h1 with h6 h7
 subst h6 h7
 exact ⟨g, o + 2, A, c, rfl, h2, h3, by rw [show o + 2 + k * 2 = o + (k + 1) * 2 by omega]; exact h4, h5⟩
theorem PartsS.nil {w : World} {S : Nat → Prop} {A : Option Addr} : PartsS w S A [] := fun k p h => by simp at h
theorem slice_tl (g n c : Nat) (h1 : 1 ≤ n) (_h3 : n ≤ c) (w : World) : (Instr.sliceAt 102 (.slice (some ⟨g, 0, none⟩) n c) (some (iz 1)) none none).run Tryz.prog w = .ok (.slice (if c = 1 then some ⟨g, 0, none⟩ else some ⟨g, 2, none⟩) (n - 1) (c - 1)) w := by
 simp [go_sem]
 omega
def PutV (nq : Nat) (AP : Option Addr) (ps : List (Nat × List UInt8)) (sq : Nat) (xs : List UInt8) (W : World) (v : Value) (w : World) : Prop :=
 ∃ nq' ps' told AP' c A2 c2, v = .tuple #[.agg ([iz (nq' : Nat), .slice AP' (ps' : List (Nat × List UInt8)).length c] : List Value).toArray, .slice A2 (told : List UInt8).length c2] ∧ PutG nq ps sq xs nq' ps' told ∧ ((AP' = AP ∧ ps' = ps) ∨ PartsS w (SP W.heap.size w) AP' ps') ∧ RBS w (SP W.heap.size w) A2 told ∧ Below W.heap.size W w
theorem reasmPut (nq : Nat) (AP : Option Addr) (cP : Nat) (ps : List (Nat × List UInt8)) (sq : Nat) (xs : List UInt8) (A : Option Addr) (c : Nat) (w : World) (hq : nq ≤ 4294967295) (hs : sq ≤ 4294967295) (hl : ps.length ≤ 100000) (hn : xs.length ≤ 65536) (hc : xs.length ≤ c) (hP : PartsAt w w.heap.size AP ps) (hps : ∀ p ∈ ps, p.1 ≤ 4294967295 ∧ 0 ≤ spDiff p.1 nq ∧ spDiff p.1 nq + (p.2.length : Int) ≤ 2048) (hr : RB w w.heap.size A xs) :
  Calls Tryz.prog 98 #[.agg ([iz nq, .slice AP ps.length cP] : List Value).toArray, iz sq, .slice A xs.length c] w fun e w' => ∃ v, e = .returned v ∧ PutV nq AP ps sq xs w v w' := by
 go_enter Tryz.func98, Tryz.ntmps98
 refine Has.start 70 [(0, .agg ([iz nq, .slice AP ps.length cP] : List Value).toArray), (1, iz sq), (2, .slice A xs.length c)] rfl rfl ⟨rfl, rfl, rfl, trivial⟩ ?_
 intro a0 H0
 have O0 := Own.start w
 have hn0 : win0.length = 2048 := List.length_replicate
 refine rl ?_
 refine H0.bx O0 0 (L := [iz nq, .slice AP ps.length cP]) fun a w1 O1 H => ?_
 generalize hg3 : w.heap.size = g3 at O1 H hP hr ⊢
 refine H.al O1 1 zero_buf fun a w2 O2 H => nt ?_
 generalize w1.heap.size = g6 at O2 H
 have bl : ∀ {L L' : List Value} {w'}, Own w g3 [(g6, L), (g3, L')] w' → Below w.heap.size w w' := fun h => hg3 ▸ h.bel
 replace H := H.kp [1, 2, 3, 6]
 refine H.rg 0 fun a H => ?_
 refine H.loadS rfl rfl rfl rfl rfl (O2.get 1 rfl) Tryz.underlying104 rfl size_buf rfl fun a H => ?_
 refine H.ms 2 fun a H => ?_
 refine H.cl (reasmWithin nq sq (.slice AP ps.length cP) xs A c hq hs hn hc w2 ((hr.below O2.bel).more O2.le)) ?_
 rintro a _ w3 ⟨at_, A1, c1, rfl, hc1, hat, hr1, hb3⟩ H
 obtain ⟨ys, hys⟩ : ∃ ys, wiTake (spDiff sq nq) xs = ys := ⟨_, rfl⟩
 have hfit := wi_fits (spDiff sq nq) xs
 have O3 := O2.call hb3
 refine H.ms 1 fun a H => ?_
 rw [hys] at H hc1 hr1 hat hfit
 refine H.ex (r := iz at_) 0 fun a H => ?_
 refine H.ex (r := .slice A1 ys.length c1) 2 fun a H => nt ?_
 replace H := H.kp [3, 6, 8, 9]
 refine H.rg 1 fun a H => ?_
 refine H.len gz rfl rfl rfl rfl Tryz.underlying31 fun a H => ?_
 by_cases hy : ys = []
 ·refine H.bb 0 rfl rfl rfl rfl rfl rfl (eql_iB _ _ true (by subst hy; rfl) _ _ _) rfl fun a H => nt (H.condT rfl ?_)
  refine H.rg 0 fun a H => ?_
  refine H.loadS rfl rfl rfl rfl rfl (O3.get 1 rfl) Tryz.underlying104 rfl size_buf rfl fun a H => ?_
  refine H.st O3 0 1 (L := [iz nq, .slice AP ps.length cP]) (fun a w4 O4 H => nt (wp_ret ?_)) size_buf
  repeat (first | (with_reducible refine block_ret ?_) | (with_reducible refine then_ret ?_))
  refine bodyPost_ret (results_two Tryz.results98 _ _ _ (H.at_ 6 _ rfl) (H.at_ 7 _ rfl) (O4.get 0 rfl) Tryz.underlying104 rfl _ size_buf rfl) H.df ⟨_, rfl, nq, ps, [], AP, cP, none, 0, rfl, .inl ⟨hys.trans hy, rfl, rfl, rfl⟩, .inl ⟨rfl, rfl⟩, fun h => absurd h (Nat.lt_irrefl 0), bl O4⟩
 have hne : wiTake (spDiff sq nq) xs ≠ [] := by rw [hys]; exact hy
 have hat' := hat hy
 have hfit' : at_ + ys.length ≤ 2048 := by rw [hat']; exact hfit hy
 have hpos : 0 < ys.length := List.length_pos_iff.2 hy
 refine H.bb 0 rfl rfl rfl rfl rfl rfl (eql_iB _ _ false (by rw [beq_eq_false_iff_ne]; omega) _ _ _) rfl fun a H => nt (H.condF rfl (skip_wp (then_normal ?_)))
 replace H := H.kp [3, 6, 8, 9]
 refine H.rg 0 fun a H => ?_
 refine H.loadS rfl rfl rfl rfl rfl (O3.get 1 rfl) Tryz.underlying104 rfl size_buf rfl fun a H => ?_
 refine H.ms 2 fun a H => ?_
 refine H.cl (reasmFill nq AP cP ps at_ ys A1 c1 w3 hq hl ((hP.below O3.bel).more O3.le) hps hr1 hfit') ?_
 rintro a _ w4 ⟨gH, gA, rfl, Of⟩ H
 have O4 := O3.call Of.bel
 refine H.ms 1 fun a H => ?_
 refine H.ex (r := .slice (some ⟨gH, 0, none⟩) 2048 2048) 0 fun a H => ?_
 refine H.ex (r := .slice (some ⟨gA, 0, none⟩) 2048 2048) 2 fun a H => nt ?_
 replace H := H.kp [3, 6, 10, 11]
 obtain ⟨mm, hmm⟩ : ∃ mm, layG (layP nq win0 ps) at_ ys = mm := ⟨_, rfl⟩
 rw [hmm] at Of
 have hml : mm.length = 2048 := by rw [← hmm, layG_len, layP_len, hn0]
 refine H.rg 1 fun a H => ?_
 refine H.ld 2 (O4.li 1 0) fun a H => ?_
 refine H.cl (reasmParts nq gH gA mm hml w4 hq (Of.lt 1 rfl) (Of.lt 0 rfl) (Of.get 1 rfl) (Of.get 0 rfl)) ?_
 rintro a vl w5 ⟨l, cs, hR, hll, hbl, hrow, hpk⟩ H
 have O5 := O4.call hbl
 refine H.ms 1 fun a H => nt ?_
 refine H.rg 1 fun a H => nt ?_
 refine H.rg 1 fun a H => ?_
 refine H.ld 1 (O5.li 1 0) fun a H => nt ?_
 replace H := H.kp [3, 6, 12, 13, 14]
 obtain ⟨y0, yr, hys2⟩ : ∃ y0 yr, ys = y0 :: yr := by
  cases ys with
  | nil => exact absurd rfl hy
  | cons y0 yr => exact ⟨y0, yr, rfl⟩
 rcases l with _ | ⟨⟨p0, x0⟩, r⟩
 ·exfalso
  have h0 : at_ < (layP nq win0 ps).length := by rw [layP_len, hn0]; omega
  obtain ⟨z, hz⟩ := lay1c_at y0 h0
  refine runs_some (m := mm) (j := at_) (y := z) ?_ (by omega) hR
  rw [← hmm, hys2, layG]
  exact layG_keep hz
 obtain ⟨gl, cl, hv, hcl, hgl⟩ := hrow.form (Nat.succ_pos _)
 subst hv
 have hcap : r.length + 1 ≤ cl := own_cap hrow
 obtain ⟨_, hcs0, hcs1, A0, c0, rfl, hO0⟩ := hpk.2 0 _ rfl
 have hlt6 : g6 < w4.heap.size := O4.lt 0 rfl
 have k1 : w5.cell? ⟨gl, 0, none⟩ = some (iz (spAdd nq p0)) := hrow.cells (g := gl) rfl 0 _ hcs0
 have k2 : w5.cell? ⟨gl, 1, none⟩ = some (.slice A0 x0.length c0) := hrow.cells (g := gl) rfl 1 _ hcs1
 have hPA : ∀ {w6 w7 : World}, Below w5.heap.size w5 w6 → w6.grownBy w7 (some g6) → PartsS w7 (SP w4.heap.size w7) (some ⟨gl, 0, none⟩) (putSeq nq ((p0, x0) :: r)) ∧ RBS w7 (SP w4.heap.size w7) A0 x0 := by
  intro w6 w7 hb hg
  have h1 := own_below hrow hb
  have h2 := own_below hO0 hb
  refine ⟨PartsS.of_row (h1.kept hg (.inr (own_ne h1 (.inl hlt6)).symm)) ⟨hpk.1, fun k p hk => ?_⟩, RBS.of_row (h2.kept hg (.inr (own_ne h2 (.inl hlt6)).symm)) rfl⟩
  obtain ⟨v, q1, q2, A', c', e, q3⟩ := hpk.2 k p hk
  have q4 := own_below q3 hb
  exact ⟨v, q1, q2, A', c', e, q4.kept hg (.inr (own_ne q4 (.inl hlt6)).symm)⟩
 obtain ⟨z, hz⟩ : ∃ z, (spAdd nq p0 == nq) = z := ⟨_, rfl⟩
 have hzi : (((spAdd nq p0 : Nat) : Int) == (nq : Int)) = z := by rw [← hz, Bool.eq_iff_iff, beq_iff_eq, beq_iff_eq]; omega
 refine wp_seq_join (fun a w' => ∃ (l2 : List (Nat × List UInt8)) (A2 : Option Addr) (n2 c2 : Nat) (At : Option Addr) (n9 ct : Nat), Has a 70 [(3, pz g3), (6, pz g6), (12, .slice A2 n2 c2), (13, .slice At n9 ct), (14, iz (putNext nq ((p0, x0) :: r) : Nat))] ∧ l2.length = n2 ∧ n2 ≤ c2 ∧ l2 = putSeq nq (putRest nq ((p0, x0) :: r)) ∧ Own w g3 [(g6, [iz 0, nilV]), (g3, [iz nq, .slice AP ps.length cP])] w' ∧ (putTold nq ((p0, x0) :: r)).length = n9 ∧ ∀ w'', w'.grownBy w'' (some g6) → PartsS w'' (SP w4.heap.size w'') A2 l2 ∧ RBS w'' (SP w4.heap.size w'') At (putTold nq ((p0, x0) :: r))) ?_ ?_
 ·refine H.dq (fun w' => Own w g3 [(g6, [iz 0, nilV]), (g3, [iz nq, .slice AP ps.length cP])] w' ∧ Below w5.heap.size w5 w') (fun _ _ h hb => ⟨h.1.call hb, h.2.trans (hb.mono h.2.size)⟩) ⟨O5, Below.refl _ _⟩ [3, 6, 12, 13, 14] rfl [ec 0 40 (.slice (some ⟨gl, 0, none⟩) (r.length + 1) cl), ec 1 41 (pz gl), ec 2 42 (pz gl), ec 3 43 (iz (spAdd nq p0)), ec 4 44 (pz g3), ec 5 45 (iz nq), ec 6 46 (.bool z)] rfl
   ⟨jm, jI rfl rfl rfl rfl rfl rfl (index_m 102 Tryz.underlying102 2 (fun _ => by kernel_rfl) gl 0 (r.length + 1) cl 0 (Nat.succ_pos _)), jm, jl fun _ h => load1_i _ _ _ _ ((cellB h.2 hgl).trans k1), jm, jl fun _ h => h.1.li 1 0, jb fun _ => eql_iB _ _ z hzi _ _ _, trivial⟩ trivial ?_
  intro a w6 H _ ⟨O6, hb6⟩
  have hlen : (putSeq nq r).length = r.length := List.length_map _
  cases z with
  | false =>
   refine then_normal (H.condF rfl (skip_wp (then_normal ?_)))
   refine ⟨putSeq nq ((p0, x0) :: r), some ⟨gl, 0, none⟩, r.length + 1, cl, none, 0, 0, ?_, ?_, hcap, ?_, O6, ?_, fun w7 hg => ⟨(hPA hb6 hg).1, ?_⟩⟩
   ·rw [putNext_c, hz, cond_false]
    exact H.keep ⟨rfl, rfl, rfl, rfl, rfl, trivial⟩
   ·exact congrArg (· + 1) hlen
   ·rw [putRest_c, hz, cond_false]
   ·rw [putTold_c, hz, cond_false]
    rfl
   ·rw [putTold_c, hz, cond_false]
    exact fun h => absurd h (Nat.lt_irrefl 0)
  | true =>
   refine then_normal (H.condT rfl ?_)
   replace H := H.kp [3, 6, 12]
   have hx0 : x0.length ≤ 2048 := by
    cases hR with
    | run h1 h2 h3 h4 h5 h6 h7 h => omega
   have hsq := spanAdd nq x0.length (by omega) (by omega)
   refine H.sg (fun w' => Own w g3 [(g6, [iz 0, nilV]), (g3, [iz nq, .slice AP ps.length cP])] w' ∧ Below w5.heap.size w5 w') ⟨O6.drew, hb6.trans (Below.drew (Below.refl _ _) |>.mono hb6.size)⟩ [3, 6, 12] [ec 0 47 (.slice (some ⟨gl, 0, none⟩) (r.length + 1) cl), ec 1 48 (pz gl), ec 2 49 (.pointer (some ⟨gl, 1, none⟩)), ec 3 50 (.slice A0 x0.length c0), ec 4 51 (pz g3), ec 5 52 (iz nq), ec 6 53 (.slice (some ⟨gl, 0, none⟩) (r.length + 1) cl), ec 7 54 (pz gl), ec 8 55 (.pointer (some ⟨gl, 1, none⟩)), ec 9 56 (.slice A0 x0.length c0), ec 10 57 (iz x0.length), ec 11 58 (iz (spAdd nq x0.length)), ec 12 59 (.slice (some ⟨gl, 0, none⟩) (r.length + 1) cl), ec 13 60 (.slice (if cl = 1 then some ⟨gl, 0, none⟩ else some ⟨gl, 2, none⟩) (r.length + 1 - 1) (cl - 1)), ec 14 13 (.slice A0 x0.length c0), ec 15 14 (iz (spAdd nq x0.length))] rfl ?_
   refine St.val 16 ⟨jm, jI rfl rfl rfl rfl rfl rfl (index_m 102 Tryz.underlying102 2 (fun _ => by kernel_rfl) gl 0 (r.length + 1) cl 0 (Nat.succ_pos _)), jm, jl fun _ h => load1_31 _ _ _ _ _ _ ((cellB h.2 hgl).trans k2), jm, jl fun _ h => h.1.li 1 0, jm, jI rfl rfl rfl rfl rfl rfl (index_m 102 Tryz.underlying102 2 (fun _ => by kernel_rfl) gl 0 (r.length + 1) cl 0 (Nat.succ_pos _)), jm, jl fun _ h => load1_31 _ _ _ _ _ _ ((cellB h.2 hgl).trans k2), jn Tryz.underlying31, jq fun w' _ => hsq w', jm, js1 fun _ => slice_tl gl (r.length + 1) cl (by omega) hcap _, jm, jm, trivial⟩ fun a wu H _ hF => ⟨_, wu, run_move (.inr rfl) (H.ev rfl), nxl [(3, pz g3), (6, pz g6)] (fun _ h => ⟨h.1, h.2.1, trivial⟩) (fun w' => Own w g3 [(g6, [iz 0, nilV]), (g3, [iz nq, .slice AP ps.length cP])] w' ∧ Below w5.heap.size w5 w') [] [] hF (St.fin trivial ?_)⟩
   intro a w7 H _ ⟨O7, hb7⟩
   refine then_normal ?_
   refine ⟨putSeq nq r, if cl = 1 then some ⟨gl, 0, none⟩ else some ⟨gl, 2, none⟩, r.length, cl - 1, A0, x0.length, c0, ?_, hlen, by omega, ?_, O7, ?_, fun w8 hg => ⟨?_, ?_⟩⟩
   ·rw [putNext_c, hz, cond_true]
    exact H.keep ⟨rfl, rfl, rfl, rfl, rfl, trivial⟩
   ·rw [putRest_c, hz, cond_true]
   ·rw [putTold_c, hz, cond_true]
   ·split
    ·have : r = [] := List.length_eq_zero_iff.1 (by omega)
     subst this
     exact PartsS.nil
    ·exact PartsS.tail (o := 0) (hPA hb7 hg).1
   ·rw [putTold_c, hz, cond_true]
    exact (hPA hb7 hg).2
 have hw4 : w.heap.size ≤ w4.heap.size := (bl O4).size
 clear H O5 hPA hrow hpk hcap k1 k2 hO0
 rintro a w8 ⟨l2, A2, n2, c2, At, n9, ct, H, hl2, hc2, hl2e, O8, hnt, hK⟩
 refine H.rg 1 fun a H => ?_
 refine H.len gz rfl rfl rfl rfl Tryz.underlying102 fun a H => ?_
 have hlr : n2 = (putRest nq ((p0, x0) :: r)).length := by rw [← hl2, hl2e]; exact List.length_map _
 have hRR : Runs (layG (layP nq win0 ps) (wiAt (spDiff sq nq)) (wiTake (spDiff sq nq) xs)) 0 ((p0, x0) :: r) := by rw [hys, ← hat', hmm]; exact hR
 by_cases h8 : 8 < n2
 ·refine H.bb 0 rfl rfl rfl rfl rfl rfl (gtr_i (n2 : Int) 8 true (by rw [decide_eq_true_iff]; omega) _ _ _) rfl fun a H => nt (H.condT rfl ?_)
  refine H.rg 0 fun a H => ?_
  refine H.loadS rfl rfl rfl rfl rfl (O8.get 1 rfl) Tryz.underlying104 rfl size_buf rfl fun a H => ?_
  refine H.st O8 0 1 (L := [iz nq, .slice AP ps.length cP]) (fun a w9 O9 H => nt (wp_ret ?_)) size_buf
  repeat (first | (with_reducible refine block_ret ?_) | (with_reducible refine then_ret ?_))
  refine bodyPost_ret (results_two Tryz.results98 _ _ _ (H.at_ 6 _ rfl) (H.at_ 7 _ rfl) (O9.get 0 rfl) Tryz.underlying104 rfl _ size_buf rfl) H.df ⟨_, rfl, nq, ps, [], AP, cP, none, 0, rfl, .inr ⟨hne, _, hRR, .inl ⟨hlr ▸ h8, rfl, rfl, rfl⟩⟩, .inl ⟨rfl, rfl⟩, fun h => absurd h (Nat.lt_irrefl 0), bl O9⟩
 ·refine H.bb 0 rfl rfl rfl rfl rfl rfl (gtr_i (n2 : Int) 8 false (by rw [decide_eq_false_iff_not]; omega) _ _ _) rfl fun a H => nt (H.condF rfl (skip_wp (then_normal ?_)))
  refine H.rg 2 fun a H => ?_
  refine H.cq 0 (partsClip A2 n2 c2 hc2 w8) fun a H => ?_
  refine H.any (w' := w8) gz rfl rfl (.agg ([iz (putNext nq ((p0, x0) :: r) : Nat), .slice A2 n2 n2] : List Value).toArray) (by intro cs b h; cases h) (by kernel_rfl) (by kernel_rfl) fun a H => ?_
  refine H.ms 1 fun a H => ?_
  refine H.storeS rfl rfl rfl rfl rfl (O8.get 0 rfl) size_buf rfl rfl rfl fun a w9 H hg9 hs9 hC9 => ?_
  have O9 := O8.store 0 rfl hg9 hs9 hC9
  obtain ⟨hP9, ht9⟩ := hK w9 hg9
  refine H.ms 1 fun a H => nt (wp_ret ?_)
  repeat (first | (with_reducible refine block_ret ?_) | (with_reducible refine then_ret ?_))
  exact bodyPost_ret (results_two Tryz.results98 _ _ _ (H.at_ 6 _ rfl) (H.at_ 7 _ rfl) (O9.get 0 rfl) Tryz.underlying104 rfl _ size_buf rfl) H.df ⟨_, rfl, putNext nq ((p0, x0) :: r), l2, putTold nq ((p0, x0) :: r), A2, n2, At, ct, by rw [hl2, hnt], .inr ⟨hne, _, hRR, .inr ⟨by omega, rfl, hl2e, rfl⟩⟩, .inr (hP9.mono fun k _ h => ⟨Nat.le_trans hw4 h.1, h.2⟩), ht9.mono fun k _ h => ⟨Nat.le_trans hw4 h.1, h.2⟩, bl O9⟩
end
section
theorem layG_get : ∀ (xs : List UInt8) (m : List (Option UInt8)) (i j : Nat), (layG m i xs)[j]? = if i ≤ j ∧ j < i + xs.length ∧ m[j]? = some none then some (xs[j - i]?) else m[j]?
 | [], m, i, j => by
  rw [if_neg (by rintro ⟨h1, h2, _⟩; simp at h2; omega)]
  rfl
 | x :: r, m, i, j => by
  rw [layG, layG_get r (lay1c m i x) (i + 1) j]
  have hl : (lay1c m i x)[j]? = if i = j ∧ m[j]? = some none then some (some x) else m[j]? := by
   unfold lay1c
   by_cases hn : m[i]? = some none
   ·rw [if_pos hn, List.getElem?_set]
    by_cases e : i = j
    ·subst e
     rw [if_pos rfl, if_pos (List.getElem?_eq_some_iff.1 hn).1, if_pos ⟨rfl, hn⟩]
    ·rw [if_neg e, if_neg (fun h => e h.1)]
   ·rw [if_neg hn, if_neg]
    rintro ⟨rfl, h⟩
    exact hn h
  rw [hl]
  rcases Nat.lt_trichotomy j i with h | h | h
  ·rw [if_neg (by omega), if_neg (by omega), if_neg (by omega)]
  ·subst h
   by_cases hn : m[j]? = some none
   ·rw [if_neg (by omega), if_pos ⟨rfl, hn⟩, if_pos ⟨Nat.le_refl _, by simp, hn⟩, Nat.sub_self]
    rfl
   ·rw [if_neg (by omega), if_neg (fun h => hn h.2), if_neg (fun h => hn h.2.2)]
  ·rw [if_neg (show ¬ (i = j ∧ m[j]? = some none) by omega)]
   by_cases hn : i + 1 ≤ j ∧ j < i + 1 + r.length ∧ m[j]? = some none
   ·rw [if_pos hn, if_pos ⟨by omega, by rw [List.length_cons]; omega, hn.2.2⟩, show j - i = (j - (i + 1)) + 1 by omega, List.getElem?_cons_succ]
   ·rw [if_neg hn, if_neg]
    rintro ⟨h1, h2, h3⟩
    rw [List.length_cons] at h2
    exact hn ⟨by omega, by omega, h3⟩
theorem runs_ge {m : List (Option UInt8)} {i : Nat} {l : List (Nat × List UInt8)} (h : Runs m i l) : ∀ p ∈ l, i ≤ p.1 ∧ 0 < p.2.length ∧ p.1 + p.2.length ≤ m.length := by
 induction h with
 | done h => intro p hp; cases hp
 | @run i a b xs l h1 h2 h3 h4 h5 h6 h7 h ih =>
  intro p hp
  rcases List.mem_cons.1 hp with rfl | hp
  ·exact ⟨h1, by show 0 < xs.length; omega, by show a + xs.length ≤ _; omega⟩
  ·have := ih p hp
   exact ⟨by omega, this.2⟩
theorem runs_tail {m : List (Option UInt8)} {i a : Nat} {xs : List UInt8} {l : List (Nat × List UInt8)} (h : Runs m i ((a, xs) :: l)) : ∀ p ∈ l, a + xs.length ≤ p.1 := by
 cases h with
 | @run _ _ b _ _ h1 h2 h3 h4 h5 h6 h7 h =>
  intro p hp
  have := (runs_ge h p hp).1
  omega
theorem runs_one {m : List (Option UInt8)} {i : Nat} {l l' : List (Nat × List UInt8)} (h : Runs m i l) (h' : Runs m i l') : l = l' := by
 induction h generalizing l' with
 | @done i h =>
  cases h' with
  | done => rfl
  | @run _ a b xs r h1 h2 h3 h4 h5 h6 h7 hr =>
   obtain ⟨x, e, _⟩ := h5 a (Nat.le_refl _) h3
   rw [h a h1 (by omega)] at e
   cases e
 | @run i a b xs r h1 h2 h3 h4 h5 h6 h7 hr ih =>
  cases h' with
  | done h =>
   obtain ⟨x, e, _⟩ := h5 a (Nat.le_refl _) h3
   rw [h a h1 (by omega)] at e
   cases e
  | @run _ a' b' xs' r' g1 g2 g3 g4 g5 g6 g7 gr =>
   have ha : a = a' := by
    rcases Nat.lt_trichotomy a a' with h | h | h
    ·obtain ⟨x, e, _⟩ := h5 a (Nat.le_refl _) h3
     rw [g2 a h1 h] at e
     cases e
    ·exact h
    ·obtain ⟨x, e, _⟩ := g5 a' (Nat.le_refl _) g3
     rw [h2 a' g1 h] at e
     cases e
   subst ha
   have hb : b = b' := by
    rcases Nat.lt_trichotomy b b' with h | h | h
    ·obtain ⟨x, e, _⟩ := g5 b (Nat.le_of_lt h3) h
     rcases h7 with h7 | h7
     ·omega
     ·rw [h7] at e; cases e
    ·exact h
    ·obtain ⟨x, e, _⟩ := h5 b' (Nat.le_of_lt g3) h
     rcases g7 with g7 | g7
     ·omega
     ·rw [g7] at e; cases e
   subst hb
   have hx : xs = xs' := by
    apply List.ext_getElem?
    intro k
    rcases Nat.lt_or_ge k xs.length with hk | hk
    ·obtain ⟨x, e, f⟩ := h5 (a + k) (Nat.le_add_right _ _) (by omega)
     obtain ⟨y, e', f'⟩ := g5 (a + k) (Nat.le_add_right _ _) (by omega)
     rw [e] at e'
     injection e' with e'
     injection e' with e'
     subst e'
     rw [Nat.add_sub_cancel_left] at f f'
     rw [f, f']
    ·rw [List.getElem?_eq_none hk, List.getElem?_eq_none (by omega)]
   rw [hx, ih gr]
theorem spAdd_id {a : Nat} (h : a ≤ 4294967295) : spAdd a 0 = a := by unfold spAdd; omega
theorem spAdd_self {a p : Nat} (h : a ≤ 4294967295) (hp : p ≤ 2048) : (spAdd a p = a) = (p = 0) := by
 unfold spAdd
 apply propext
 omega
theorem spDiff_two {a p q : Nat} (h : q ≤ p) (hp : p ≤ 100000) : spDiff (spAdd a p) (spAdd a q) = (p : Int) - (q : Int) := by
 unfold spDiff spAdd
 split <;> omega
theorem spDiff_self {a p : Nat} (h : a ≤ 4294967295) (hp : p ≤ 100000) : spDiff (spAdd a p) a = p := by
 have := spDiff_two (a := a) (Nat.zero_le p) hp
 rw [spAdd_id h] at this
 omega
def PsOk (nq : Nat) (ps : List (Nat × List UInt8)) : Prop := ∀ p ∈ ps, p.1 ≤ 4294967295 ∧ 0 ≤ spDiff p.1 nq ∧ spDiff p.1 nq + (p.2.length : Int) ≤ 2048
theorem win0_len : win0.length = 2048 := List.length_replicate
theorem putG_ok {nq : Nat} {ps : List (Nat × List UInt8)} {sq : Nat} {xs : List UInt8} {nq' : Nat} {ps' : List (Nat × List UInt8)} {told : List UInt8} (h : PutG nq ps sq xs nq' ps' told) (hq : nq ≤ 4294967295) (hl : ps.length ≤ 8) (hps : PsOk nq ps) :
  nq' ≤ 4294967295 ∧ ps'.length ≤ 8 ∧ PsOk nq' ps' ∧ told.length ≤ 2048 := by
 have same : nq ≤ 4294967295 ∧ ps.length ≤ 8 ∧ PsOk nq ps ∧ ([] : List UInt8).length ≤ 2048 := ⟨hq, hl, hps, by simp⟩
 rcases h with ⟨_, rfl, rfl, rfl⟩ | ⟨_, l, hR, ⟨_, rfl, rfl, rfl⟩ | ⟨h8, rfl, rfl, rfl⟩⟩
 ·exact same
 ·exact same
 have hml : (layG (layP nq win0 ps) (wiAt (spDiff sq nq)) (wiTake (spDiff sq nq) xs)).length = 2048 := by rw [layG_len, layP_len, win0_len]
 have hge := runs_ge hR
 rw [hml] at hge
 have hlen : (putSeq nq (putRest nq l)).length ≤ 8 := by unfold putSeq; rw [List.length_map]; exact h8
 have hmap : ∀ (n0 : Nat) (r : List (Nat × List UInt8)), (∀ p ∈ r, n0 ≤ p.1 ∧ p.1 + p.2.length ≤ 2048) → PsOk (spAdd nq n0) (putSeq nq r) := by
  intro n0 r hr p hp
  unfold putSeq at hp
  obtain ⟨q, hq', rfl⟩ := List.mem_map.1 hp
  have h1 := hr q hq'
  have h2 := spAdd_lt nq q.1
  have h3 := spDiff_two (a := nq) h1.1 (p := q.1) (by omega)
  exact ⟨by show spAdd nq q.1 ≤ _; omega, by show 0 ≤ spDiff (spAdd nq q.1) (spAdd nq n0); omega, by show spDiff (spAdd nq q.1) (spAdd nq n0) + (q.2.length : Int) ≤ 2048; omega⟩
 rcases l with _ | ⟨⟨a, x⟩, r⟩
 ·refine ⟨hq, hlen, ?_, by simp [putTold]⟩
  intro p hp
  simp [putRest, putSeq] at hp
 ·rw [putNext_c, putRest_c, putTold_c]
  have h0 := hge _ List.mem_cons_self
  cases hz : spAdd nq a == nq with
  | true =>
   have ha : a = 0 := by
    have := beq_iff_eq.1 hz
    rwa [spAdd_self hq (by simp only at h0; omega)] at this
   have ht := runs_tail hR
   refine ⟨by rw [cond_true]; have := spAdd_lt nq x.length; omega, by rw [putRest_c, hz] at hlen; exact hlen, hmap _ _ fun p hp => ⟨?_, (hge p (List.mem_cons_of_mem _ hp)).2.2⟩, by rw [cond_true]; simp only at h0; omega⟩
   have := ht p hp
   omega
  | false =>
   refine ⟨hq, by rw [putRest_c, hz] at hlen; exact hlen, ?_, by simp⟩
   have := hmap 0 ((a, x) :: r) fun p hp => ⟨Nat.zero_le _, (hge p hp).2.2⟩
   rw [spAdd_id hq] at this
   exact this
end
section
open Go.RowKit
def EthAt (w : World) (r : Frm × Int) (v : Value) (w' : World) : Prop :=
 ∃ A c, v = .tuple #[.agg #[iz r.1.d, iz r.1.s, iz r.1.t, .slice A r.1.xs.length c], iz r.2] ∧ w'.ownsRow w.heap.size 5 1 (.slice A r.1.xs.length c) r.1.xs.length (r.1.xs.map bv) ∧ Below w.heap.size w w'
theorem size_frame : (Tryz.prog.info? 85).map (·.size) = some 4 := by kernel_rfl
theorem zero_frame (w : World) : (zeroValue 85).run Tryz.prog w = .ok (.agg ([iz 0, iz 0, iz 0, nilV] : List Value).toArray) w := by kernel_rfl
theorem take_drop7 (xs : List UInt8) (k m : Nat) : (xs.take (k + m)).drop k = (xs.drop k).take m := by
 rw [List.drop_take, Nat.add_sub_cancel_left]
theorem cloneE (y : List UInt8) (n : Nat) (hn : y.length = n) (A : Option Addr) (c : Nat) (w : World) (hx : RB w w.heap.size A y) (hl : n ≤ 140737488351232) :
  Calls Tryz.prog 80 #[.slice A n c] w fun e w' => ∃ v, e = .returned v ∧ (∃ A' c', v = .slice A' n c' ∧ w'.ownsRow w.heap.size 5 1 (.slice A' n c') n (y.map bv) ∧ Below w.heap.size w w') :=
 (clone y n hn A c w hx hl).mono fun _ _ ⟨A', c', h1, h2, h3⟩ => ⟨_, h1, A', c', rfl, h2, h3⟩
theorem shl_8 (u : Nat) (h : u < 36028797018963968) (x y : Operand) (w : World) : (do eqGuard .shl 3 x y (iz u) (.int .u64 8); binOp .shl 3 (iz u) (.int .u64 8) : Sem Value).run Tryz.prog w = .ok (iz ((u : Int) * 256)) w := by
 have : IntKind.i64.wrap ((u : Int) * 256) = (u : Int) * 256 := IntWalk.i64_in _ (by omega)
 simp [go_sem, this]
theorem conv_xi (x : UInt8) (w : World) : (convert 5 3 (bv x)).run Tryz.prog w = .ok (iz x.toNat) w := by
 have hx := x.toNat_lt
 have : IntKind.i64.wrap (x.toNat : Int) = (x.toNat : Int) := IntWalk.i64_in _ (by omega)
 simp [go_sem, this]
theorem or_x (u : Nat) (x : UInt8) (h : u < 36028797018963968) (p q : Operand) (w : World) : (do eqGuard .or 3 p q (iz ((u : Int) * 256)) (iz x.toNat); binOp .or 3 (iz ((u : Int) * 256)) (iz x.toNat) : Sem Value).run Tryz.prog w = .ok (iz ((u * 256 + x.toNat : Nat) : Int)) w := by
 have := or_shl u x h
 simp [go_sem]
 rw [this]
 simp
theorem ethGet (xs : List UInt8) (n : Nat) (hl : xs.length = n) (A : Option Addr) (c : Nat) (w : World) (hx : RB w w.heap.size A xs) (hn : n ≤ 7) :
  Calls Tryz.prog 85 #[.slice A n c] w fun e w' => e = .returned (iz (ofB xs)) ∧ w = w' := by
 subst hl
 go_enter Tryz.func85, Tryz.ntmps85
 refine Has.start 18 [(0, .slice A xs.length c)] rfl rfl ⟨rfl, trivial⟩ ?_
 intro a0 H0
 refine H0.rg 1 fun a H => nt ?_
 refine H.rg 1 fun a H => ?_
 refine H.len gz rfl rfl rfl rfl Tryz.underlying31 fun a H => ?_
 refine H.ms 1 fun a H => nt ?_
 replace H := H.kp [2, 5, 6, 7]
 refine wp_block ?_
 refine wp_loop_up xs.length (fun k a w' => Has a 18 [(2, iz (ofB (xs.take k))), (5, .slice A xs.length c), (6, iz xs.length), (7, iz k)] ∧ w = w') ⟨H, rfl⟩ ?_
 clear H0 H
 rintro k a _ hk ⟨H, rfl⟩
 refine H.rg 0 fun a H => ?_
 by_cases hlt : k < xs.length
 rotate_left
 ·refine H.bb 0 rfl rfl rfl rfl rfl rfl (lss_i _ _ false (by rw [decide_eq_false_iff_not]; omega) _ _ _) rfl fun a H => nt (wp_seq (H.condF rfl ?_))
  refine wp_exit ?_
  repeat (with_reducible refine then_exit ?_)
  refine block_leave (then_normal ?_)
  refine H.rg 2 fun a H => nt (wp_ret ?_)
  repeat (first | (with_reducible refine block_ret ?_) | (with_reducible refine then_ret ?_))
  have : k = xs.length := by omega
  subst this
  refine bodyPost_ret (results_tmp rfl _ _ _) H.df ⟨?_, rfl⟩
  rw [show a.tmps.getD 2 undef = iz (ofB (xs.take xs.length)) from H.at_ 2 _ rfl, List.take_length]
 refine H.bb 0 rfl rfl rfl rfl rfl rfl (lss_i _ _ true (by rw [decide_eq_true_iff]; omega) _ _ _) rfl fun a H => nt (wp_seq (H.condT rfl ?_))
 refine skip_wp (then_normal ?_)
 obtain ⟨b, o, x, rfl, hbB, hxk, hcell⟩ := hx.get hlt
 have hs : ofB (xs.take (k + 1)) = ofB (xs.take k) * 256 + x.toNat := by rw [take_snoc? xs k x hxk, ofB_snoc]
 have ht1 : ofB (xs.take k) < 36028797018963968 := by
  have h1 := ofB_lt (xs.take k)
  have h2 : (256 : Nat) ^ (xs.take k).length ≤ 256 ^ 6 := Nat.pow_le_pow_right (by omega) (by rw [List.length_take]; omega)
  omega
 refine wp_seq_join (fun a w' => Has a 18 [(2, iz ((ofB (xs.take (k + 1)) : Nat) : Int)), (5, .slice (some ⟨b, o, none⟩) xs.length c), (6, iz xs.length), (7, iz k)] ∧ w = w') ?_ ?_
 ·refine wp_block ?_
  refine H.rg 0 fun a H => ?_
  refine H.index gz rfl rfl rfl rfl rfl (index_1 31 Tryz.underlying31 (fun _ => by kernel_rfl) b o xs.length c k hlt _) fun a H => ?_
  refine H.ld 1 (load1_u _ _ _ _ hcell) fun a H => nt ?_
  refine H.rg 1 fun a H => ?_
  refine H.bn 1 (shl_8 _ ht1 _ _ _) fun a H => ?_
  refine H.cv 0 (conv_xi x _) fun a H => ?_
  refine H.bn 1 (or_x _ x ht1 _ _ _) fun a H => wpList_nil (block_normal (then_normal ?_))
  rw [hs]
  exact ⟨H.keep ⟨rfl, rfl, rfl, rfl, trivial⟩, rfl⟩
 ·rintro a _ ⟨H, rfl⟩
  refine H.rg 0 fun a H => ?_
  refine H.bb 1 rfl rfl rfl rfl rfl rfl (succ_i k (by omega) _ _ _) rfl fun a H => nt ?_
  exact ⟨hlt, H.keep ⟨rfl, rfl, rfl, rfl, trivial⟩, rfl⟩
theorem ethParse (xs : List UInt8) (n : Nat) (hn : xs.length = n) (A : Option Addr) (c : Nat) (hnc : n ≤ c) (w : World) (hx : RB w w.heap.size A xs) (hl : n ≤ 140737488351232) :
  Calls Tryz.prog 50 #[.slice A n c] w fun e w' => ∃ v, e = .returned v ∧ EthAt w (frOut xs) v w' := by
 go_enter Tryz.func50, Tryz.ntmps50
 refine Has.start 27 [(0, .slice A n c)] rfl rfl ⟨rfl, trivial⟩ ?_
 intro a0 H0
 have O0 := Own.start w
 refine rl ?_
 refine H0.al O0 1 zero_frame fun a1 w1 O1 H1 => nt ?_
 generalize hg : w.heap.size = g at O1 H1
 refine wp_seq (wp_block ?_)
 refine H1.rg 1 fun a2 H2 => ?_
 refine H2.len gz rfl rfl rfl rfl Tryz.underlying31 fun a3 H3 => ?_
 by_cases h14 : n < 14
 ·refine H3.bb 1 rfl rfl rfl rfl rfl rfl (lss_i _ _ true (by rw [decide_eq_true_iff]; omega) _ _ _) rfl fun a4 H4 => nt (H4.condT rfl ?_)
  refine rl ?_
  refine H4.any (w' := w1) gz rfl rfl (.agg ([iz 0, iz 0, iz 0, nilV] : List Value).toArray) (by intro cs b h; cases h) (by kernel_rfl) (by kernel_rfl) fun a5 H5 => ?_
  refine H5.st O1 0 1 (L := [iz 0, iz 0, iz 0, nilV]) (fun a6 w2 O2 H6 => nt (wp_ret ?_)) size_frame
  repeat (first | (with_reducible refine block_ret ?_) | (with_reducible refine then_ret ?_))
  refine bodyPost_ret (results_two Tryz.results50 _ _ _ (H6.at_ 2 _ rfl) (H6.at_ 3 _ rfl) (O2.get 0 rfl) Tryz.underlying85 rfl _ size_frame rfl) H6.df ⟨_, rfl, ?_⟩
  unfold frOut
  rw [if_pos (by omega)]
  exact ⟨none, 0, rfl, World.ownsRow_nil _ _ _ _, hg ▸ O2.bel⟩
 refine H3.bb 1 rfl rfl rfl rfl rfl rfl (lss_i _ _ false (by rw [decide_eq_false_iff_not]; omega) _ _ _) rfl fun a4 H4 => nt (H4.condF rfl ?_)
 refine H4.rg 1 fun a5 H5 => ?_
 refine H5.len gz rfl rfl rfl rfl Tryz.underlying31 fun a6 H6 => ?_
 by_cases h15 : 1514 < n
 ·refine H6.bb 1 rfl rfl rfl rfl rfl rfl (gtr_i _ _ true (by rw [decide_eq_true_iff]; omega) _ _ _) rfl fun a7 H7 => nt (H7.condT rfl ?_)
  refine rl ?_
  refine H7.any (w' := w1) gz rfl rfl (.agg ([iz 0, iz 0, iz 0, nilV] : List Value).toArray) (by intro cs b h; cases h) (by kernel_rfl) (by kernel_rfl) fun a8 H8 => ?_
  refine H8.st O1 0 1 (L := [iz 0, iz 0, iz 0, nilV]) (fun a9 w2 O2 H9 => nt (wp_ret ?_)) size_frame
  repeat (first | (with_reducible refine block_ret ?_) | (with_reducible refine then_ret ?_))
  refine bodyPost_ret (results_two Tryz.results50 _ _ _ (H9.at_ 2 _ rfl) (H9.at_ 3 _ rfl) (O2.get 0 rfl) Tryz.underlying85 rfl _ size_frame rfl) H9.df ⟨_, rfl, ?_⟩
  unfold frOut
  rw [if_neg (by omega), if_pos (by omega)]
  exact ⟨none, 0, rfl, World.ownsRow_nil _ _ _ _, hg ▸ O2.bel⟩
 refine H6.bb 1 rfl rfl rfl rfl rfl rfl (gtr_i _ _ false (by rw [decide_eq_false_iff_not]; omega) _ _ _) rfl fun a7 H7 => nt (H7.condF rfl (skip_wp (block_normal (then_normal ?_))))
 replace H7 := H7.kp [0, 2]
 have l1 : (xs.take 6).length = 6 := by rw [List.length_take]; omega
 have l2 : ((xs.drop 6).take 6).length = 6 := by rw [List.length_take, List.length_drop]; omega
 have l3 : ((xs.drop 12).take 2).length = 2 := by rw [List.length_take, List.length_drop]; omega
 have l4 : (xs.drop 14).length = n - 14 := by rw [List.length_drop]; omega
 have bl : ∀ {w' : World}, Own w g [(g, [iz 0, iz 0, iz 0, nilV])] w' → Below w.heap.size w w' := fun h => hg ▸ h.bel
 have r2 : ∀ {w' : World}, Below w.heap.size w w' → RB w' w'.heap.size (if c = 6 then A else A.map (·.add 6)) ((xs.drop 6).take 6) := fun h => by
  have := ((hx.next h).take 12).cut (k := 6) (cap := c) (by rw [List.length_take]; omega) (by rw [List.length_take]; omega)
  rw [show (12 : Nat) = 6 + 6 from rfl, take_drop7] at this
  exact this
 have r3 : ∀ {w' : World}, Below w.heap.size w w' → RB w' w'.heap.size (if c = 12 then A else A.map (·.add 12)) ((xs.drop 12).take 2) := fun h => by
  have := ((hx.next h).take 14).cut (k := 12) (cap := c) (by rw [List.length_take]; omega) (by rw [List.length_take]; omega)
  rw [show (14 : Nat) = 12 + 2 from rfl, take_drop7] at this
  exact this
 have r4 : ∀ {w' : World}, Below w.heap.size w w' → RB w' w'.heap.size (if c = 14 then A else A.map (·.add 14)) (xs.drop 14) := fun h => (hx.next h).cut (k := 14) (cap := c) (by omega) (by omega)
 refine H7.sg (fun w' => Own w g [(g, [iz 0, iz 0, iz 0, nilV])] w') O1.drew [0, 2]
  [ec 0 14 (.slice A n c), ec 1 15 (.slice A 6 c), ec 2 16 (iz (num2 xs 0 6)), ec 3 17 (.slice A n c), ec 4 18 (.slice (if c = 6 then A else A.map (·.add 6)) 6 (c - 6)), ec 5 19 (iz (num2 xs 6 6)), ec 6 20 (.slice A n c), ec 7 21 (.slice (if c = 12 then A else A.map (·.add 12)) 2 (c - 12)), ec 8 22 (iz (num2 xs 12 2)),
   ec 9 23 (.slice A n c), ec 10 24 (.slice (if c = 14 then A else A.map (·.add 14)) (n - 14) (c - 14)), ec 14 3 (iz 0)] rfl ?_
 refine St.call 11 ⟨jm, jh fun _ => slice_h A n c 6 (by omega) hnc _, jq fun w' h => ethGet (xs.take 6) 6 l1 A c w' ((hx.next (bl h)).take 6) (by decide), jm, js2 fun _ => slice_lh A n c 6 12 (by decide) (by omega) hnc _, jq fun w' h => ethGet _ 6 l2 _ _ w' (r2 (bl h)) (by decide), jm, js2 fun _ => slice_lh A n c 12 14 (by decide) (by omega) hnc _, jq fun w' h => ethGet _ 2 l3 _ _ w' (r3 (bl h)) (by decide), jm, js1 fun _ => slice_lo A n c 14 (by omega) hnc _, jm, trivial⟩
  (fun wy h => cloneE (xs.drop 14) (n - 14) l4 _ (c - 14) wy (r4 (bl h)) (by omega)) ?_
 rintro wy _ wz hh ⟨A1, c1, rfl, hO, hb⟩
 have hgy : g < wy.heap.size := hh.lt 0 rfl
 have Oz := hh.call hb
 clear hb
 generalize wy.heap.size = bb at hO hgy
 refine nx (fun w' => Own w g [(g, [iz 0, iz 0, iz 0, nilV])] w' ∧ w'.ownsRow bb 5 1 (.slice A1 (n - 14) c1) (n - 14) ((xs.drop 14).map bv)) [ec 12 26 (.agg ([iz (num2 xs 0 6), iz (num2 xs 6 6), iz (num2 xs 12 2), .slice A1 (n - 14) c1] : List Value).toArray)] [] ⟨Oz, hO⟩ ?_
 refine St.sto 13 ⟨ja (fun _ => by kernel_rfl), jm, trivial⟩ ?_
 rintro a8 wu H8 _ ⟨Ou, hOu⟩
 obtain ⟨w', hr, hg2, hs2, hC2⟩ := (Ou.get 0 rfl).sto (L := [iz (num2 xs 0 6), iz (num2 xs 6 6), iz (num2 xs 12 2), .slice A1 (n - 14) c1]) size_frame rfl rfl rfl
 refine ⟨w', run_store rfl (H8.ev rfl) (H8.ev rfl) hr, nx0 (fun w' => Own w g [(g, [iz (num2 xs 0 6), iz (num2 xs 6 6), iz (num2 xs 12 2), .slice A1 (n - 14) c1])] w' ∧ w'.ownsRow bb 5 1 (.slice A1 (n - 14) c1) (n - 14) ((xs.drop 14).map bv)) [] [] ⟨Ou.store 0 rfl hg2 hs2 hC2, hOu.kept hg2 (.inr (own_ne hOu (.inl hgy)).symm)⟩ ?_⟩
 refine St.fin ⟨jm, trivial⟩ ?_ (hF := .inl rfl)
 rintro a9 w3 H9 _ ⟨O3, hO3⟩
 refine then_normal (wp_ret ?_)
 repeat (first | (with_reducible refine block_ret ?_) | (with_reducible refine then_ret ?_))
 refine bodyPost_ret (results_two Tryz.results50 _ _ _ (H9.at_ 2 _ rfl) (H9.at_ 3 _ rfl) (O3.get 0 rfl) Tryz.underlying85 rfl _ size_frame rfl) H9.df ⟨_, rfl, ?_⟩
 unfold frOut
 rw [if_neg (by omega), if_neg (by omega)]
 refine ⟨A1, c1, ?_, ?_, hg ▸ O3.bel⟩
 ·simp only [l4]
 ·simp only [l4]
  exact own_base hO3 (by omega)
end
section
open Go.Shelf
def Sh.lays119_ren : Go.Shelf.Ren := ⟨fun | 119 => 182 | n => n, fun | 21 => 21 | 4 => 4 | n => n, fun | n => n⟩
theorem Sh.lays119 : Go.Proofs.Lays.n119 Tryz.prog Sh.lays119_ren := {
 mixed := by kernel_rfl
 f119 := Tryz.func182.trans (congrArg some (by kernel_rfl))
 t4 := Tryz.underlying4
 a4 := Tryz.isAgg4
 z4 := Tryz.sizeOf4
 v4 := Tryz.zeroValue4
 t21 := Tryz.underlying21
 a21 := Tryz.isAgg21
 z21 := Tryz.sizeOf21
 v21 := Tryz.zeroValue21 }
theorem Sh.utf8_ValidRune (r : Int) (w : World) :
  Calls Tryz.prog 182 #[.int .i32 r] w fun e w' => e = .returned (.bool (Lib.validRune r)) ∧ w' = w := Any.utf8_ValidRune Sh.lays119 r w
def Sh.lays137_ren : Go.Shelf.Ren := ⟨fun | 137 => 181 | 217 => 177 | 266 => 183 | n => n, fun | 9 => 9 | 5 => 5 | 3 => 3 | n => n, fun | n => n⟩
theorem Sh.lays137 : Go.Proofs.Lays.n137 Tryz.prog Sh.lays137_ren := {
 mixed := by kernel_rfl
 f137 := Tryz.func181.trans (congrArg some (by kernel_rfl))
 f217 := Tryz.func177.trans (congrArg some (by kernel_rfl))
 f266 := Tryz.func183.trans (congrArg some (by kernel_rfl))
 t3 := Tryz.underlying3
 a3 := Tryz.isAgg3
 z3 := Tryz.sizeOf3
 v3 := Tryz.zeroValue3
 t5 := Tryz.underlying5
 a5 := Tryz.isAgg5
 z5 := Tryz.sizeOf5
 v5 := Tryz.zeroValue5
 t9 := Tryz.underlying9
 a9 := Tryz.isAgg9
 z9 := Tryz.sizeOf9
 v9 := Tryz.zeroValue9 }
open Go.RowKit in
theorem Sh.strings_IndexByte (s : ByteArray) (c : Int) (w : World) :
  Calls Tryz.prog 181 #[.string s, .int .u8 c] w fun e w' => e = .returned (.int .i64 (Lib.indexByte s.data.toList c.toNat.toUInt8)) ∧ w' = w := Any.strings_IndexByte Sh.lays137 s c w
open Go.RowKit Go.Lib in
open Go.RowKit Go.Lib in
open Go.RowKit Go.Lib in
open Go.RowKit Go.Lib in
def Sh.lays219_ren : Go.Shelf.Ren := ⟨fun | 219 => 172 | 217 => 177 | 225 => 178 | 224 => 179 | 267 => 180 | 266 => 183 | 314 => 184 | n => n, fun | 9 => 9 | 3 => 3 | 4 => 4 | 5 => 5 | 46 => 125 | 146 => 223 | 51 => 33 | n => n, fun | 1 => 2 | n => n⟩
open Go.RowKit Go.Lib in
open Go.RowKit Go.Lib in
open Go.RowKit Go.Lib in
open Go.RowKit Go.Lib in
def Sh.lays144_ren : Go.Shelf.Ren := ⟨fun | 144 => 168 | 143 => 170 | 219 => 172 | 217 => 177 | 225 => 178 | 224 => 179 | 267 => 180 | 266 => 183 | 314 => 184 | n => n, fun | 9 => 9 | 4 => 4 | 3 => 3 | 5 => 5 | 46 => 125 | 146 => 223 | 51 => 33 | n => n, fun | 1 => 2 | n => n⟩
theorem Sh.lays144 : Go.Proofs.Lays.n144 Tryz.prog Sh.lays144_ren := {
 mixed := by kernel_rfl
 f143 := Tryz.func170.trans (congrArg some (by kernel_rfl))
 f144 := Tryz.func168.trans (congrArg some (by kernel_rfl))
 f217 := Tryz.func177.trans (congrArg some (by kernel_rfl))
 f219 := Tryz.func172.trans (congrArg some (by kernel_rfl))
 f224 := Tryz.func179.trans (congrArg some (by kernel_rfl))
 f225 := Tryz.func178.trans (congrArg some (by kernel_rfl))
 f266 := Tryz.func183.trans (congrArg some (by kernel_rfl))
 f267 := Tryz.func180.trans (congrArg some (by kernel_rfl))
 f314 := Tryz.func184.trans (congrArg some (by kernel_rfl))
 t3 := Tryz.underlying3
 a3 := Tryz.isAgg3
 z3 := Tryz.sizeOf3
 v3 := Tryz.zeroValue3
 t4 := Tryz.underlying4
 a4 := Tryz.isAgg4
 z4 := Tryz.sizeOf4
 v4 := Tryz.zeroValue4
 t5 := Tryz.underlying5
 a5 := Tryz.isAgg5
 z5 := Tryz.sizeOf5
 v5 := Tryz.zeroValue5
 t9 := Tryz.underlying9
 a9 := Tryz.isAgg9
 z9 := Tryz.sizeOf9
 v9 := Tryz.zeroValue9
 t46 := Tryz.underlying125
 a46 := Tryz.isAgg125
 z46 := Tryz.sizeOf125
 v46 := Tryz.zeroValue125
 t51 := Tryz.underlying33
 a51 := Tryz.isAgg33
 z51 := Tryz.sizeOf33
 v51 := Tryz.zeroValue33
 t146 := Tryz.underlying223
 a146 := Tryz.isAgg223
 z146 := Tryz.sizeOf223
 v146 := Tryz.zeroValue223
 g1 := by kernel_rfl }
open Go.RowKit Go.Lib in
theorem Sh.strings_Contains_one (s : ByteArray) (c : UInt8) (w : World) :
  Calls Tryz.prog 168 #[.string s, .string ⟨#[c]⟩] w fun e w' => e = .returned (.bool (decide (0 ≤ Lib.indexByte s.data.toList c))) ∧ w' = w := Any.strings_Contains_one Sh.lays144 s c w
open Go.RowKit Go.Lib in
open Go.RowKit Go.Lib in
open Go.RowKit Go.Lib in
open Go.RowKit Go.Lib in
def Sh.lays152_ren : Go.Shelf.Ren := ⟨fun | 152 => 173 | 137 => 181 | 119 => 182 | 224 => 179 | 225 => 178 | 217 => 177 | 266 => 183 | n => n, fun | 9 => 9 | 21 => 21 | 3 => 3 | 4 => 4 | 5 => 5 | 0 => 0 | 46 => 125 | n => n, fun | n => n⟩
theorem Sh.lays152 : Go.Proofs.Lays.n152 Tryz.prog Sh.lays152_ren := {
 mixed := by kernel_rfl
 f119 := Tryz.func182.trans (congrArg some (by kernel_rfl))
 f137 := Tryz.func181.trans (congrArg some (by kernel_rfl))
 f152 := Tryz.func173.trans (congrArg some (by kernel_rfl))
 f217 := Tryz.func177.trans (congrArg some (by kernel_rfl))
 f224 := Tryz.func179.trans (congrArg some (by kernel_rfl))
 f225 := Tryz.func178.trans (congrArg some (by kernel_rfl))
 f266 := Tryz.func183.trans (congrArg some (by kernel_rfl))
 t0 := Tryz.underlying0
 a0 := Tryz.isAgg0
 z0 := Tryz.sizeOf0
 v0 := Tryz.zeroValue0
 t3 := Tryz.underlying3
 a3 := Tryz.isAgg3
 z3 := Tryz.sizeOf3
 v3 := Tryz.zeroValue3
 t4 := Tryz.underlying4
 a4 := Tryz.isAgg4
 z4 := Tryz.sizeOf4
 v4 := Tryz.zeroValue4
 t5 := Tryz.underlying5
 a5 := Tryz.isAgg5
 z5 := Tryz.sizeOf5
 v5 := Tryz.zeroValue5
 t9 := Tryz.underlying9
 a9 := Tryz.isAgg9
 z9 := Tryz.sizeOf9
 v9 := Tryz.zeroValue9
 t21 := Tryz.underlying21
 a21 := Tryz.isAgg21
 z21 := Tryz.sizeOf21
 v21 := Tryz.zeroValue21
 t46 := Tryz.underlying125
 a46 := Tryz.isAgg125
 z46 := Tryz.sizeOf125
 v46 := Tryz.zeroValue125 }
open Go.RowKit Go.Lib in
theorem Sh.strings_IndexRune_ascii (s : ByteArray) (r : Int) (w : World) (h0 : 0 ≤ r) (h1 : r < 128) :
  Calls Tryz.prog 173 #[.string s, .int .i32 r] w fun e w' => e = .returned (.int .i64 (Lib.indexByte s.data.toList r.toNat.toUInt8)) ∧ w' = w := Any.strings_IndexRune_ascii Sh.lays152 s r w h0 h1
def Sh.lays226_ren : Go.Shelf.Ren := ⟨fun | 226 => 174 | n => n, fun | 3 => 3 | 4 => 4 | n => n, fun | n => n⟩
theorem Sh.lays226 : Go.Proofs.Lays.n226 Tryz.prog Sh.lays226_ren := {
 mixed := by kernel_rfl
 f226 := Tryz.func174.trans (congrArg some (by kernel_rfl))
 t3 := Tryz.underlying3
 a3 := Tryz.isAgg3
 z3 := Tryz.sizeOf3
 v3 := Tryz.zeroValue3
 t4 := Tryz.underlying4
 a4 := Tryz.isAgg4
 z4 := Tryz.sizeOf4
 v4 := Tryz.zeroValue4 }
open Go.RowKit Go.Lib in
theorem Sh.strings_shouldUseASCIISet (n : Int) (w : World) :
  Calls Tryz.prog 174 #[.int .i64 n] w fun e w' => e = .returned (.bool (decide (8 < n))) ∧ w' = w := Any.strings_shouldUseASCIISet Sh.lays226 n w
def Sh.lays153_ren : Go.Shelf.Ren := ⟨fun | 153 => 171 | 152 => 173 | 226 => 174 | 227 => 175 | 228 => 176 | 137 => 181 | 119 => 182 | 224 => 179 | 225 => 178 | 217 => 177 | 266 => 183 | n => n, fun | 9 => 9 | 3 => 3 | 4 => 4 | 5 => 5 | 21 => 21 | 117 => 216 | 116 => 215 | 0 => 0 | 46 => 125 | 124 => 222 | n => n, fun | n => n⟩
theorem Sh.lays153 : Go.Proofs.Lays.n153 Tryz.prog Sh.lays153_ren := {
 mixed := by kernel_rfl
 f119 := Tryz.func182.trans (congrArg some (by kernel_rfl))
 f137 := Tryz.func181.trans (congrArg some (by kernel_rfl))
 f152 := Tryz.func173.trans (congrArg some (by kernel_rfl))
 f153 := Tryz.func171.trans (congrArg some (by kernel_rfl))
 f217 := Tryz.func177.trans (congrArg some (by kernel_rfl))
 f224 := Tryz.func179.trans (congrArg some (by kernel_rfl))
 f225 := Tryz.func178.trans (congrArg some (by kernel_rfl))
 f226 := Tryz.func174.trans (congrArg some (by kernel_rfl))
 f227 := Tryz.func175.trans (congrArg some (by kernel_rfl))
 f228 := Tryz.func176.trans (congrArg some (by kernel_rfl))
 f266 := Tryz.func183.trans (congrArg some (by kernel_rfl))
 t0 := Tryz.underlying0
 a0 := Tryz.isAgg0
 z0 := Tryz.sizeOf0
 v0 := Tryz.zeroValue0
 t3 := Tryz.underlying3
 a3 := Tryz.isAgg3
 z3 := Tryz.sizeOf3
 v3 := Tryz.zeroValue3
 t4 := Tryz.underlying4
 a4 := Tryz.isAgg4
 z4 := Tryz.sizeOf4
 v4 := Tryz.zeroValue4
 t5 := Tryz.underlying5
 a5 := Tryz.isAgg5
 z5 := Tryz.sizeOf5
 v5 := Tryz.zeroValue5
 t9 := Tryz.underlying9
 a9 := Tryz.isAgg9
 z9 := Tryz.sizeOf9
 v9 := Tryz.zeroValue9
 t21 := Tryz.underlying21
 a21 := Tryz.isAgg21
 z21 := Tryz.sizeOf21
 v21 := Tryz.zeroValue21
 t46 := Tryz.underlying125
 a46 := Tryz.isAgg125
 z46 := Tryz.sizeOf125
 v46 := Tryz.zeroValue125
 t116 := Tryz.underlying215
 a116 := Tryz.isAgg215
 z116 := Tryz.sizeOf215
 t117 := Tryz.underlying216
 a117 := Tryz.isAgg216
 z117 := Tryz.sizeOf216
 v117 := Tryz.zeroValue216
 t124 := Tryz.underlying222
 a124 := Tryz.isAgg222
 z124 := Tryz.sizeOf222
 v124 := Tryz.zeroValue222 }
open Go.RowKit Go.Lib in
open Go.RowKit Go.Lib in
open Go.RowKit Go.Lib in
open Go.RowKit Go.Lib in
open Go.RowKit Go.Lib in
open Go.RowKit Go.Lib in
theorem Sh.strings_IndexAny_long (hv116 : ∀ w, (zeroValue 215).run Tryz.prog w = .ok (.agg (Array.replicate 256 (.bool false))) w) (s chars : ByteArray) (w : World) (h2 : 2 ≤ chars.size) (h8 : 8 < s.size) (hs : s.size < 4294967281) (hcs : chars.size < 4294967281) (hascii : ∀ (j : Nat) b, chars.data.toList[j]? = some b → b.toNat < 128) :
  Calls Tryz.prog 171 #[.string s, .string chars] w fun e w' => e = .returned (.int .i64 (Lib.indexAny s.data.toList chars.data.toList)) ∧ w' = ((w.alloc (.cells (Lib.setCells chars.data.toList) 215)).alloc (.cells (Lib.setCells chars.data.toList) 215)) := Any.strings_IndexAny_long Sh.lays153 hv116 (by kernel_rfl) s chars w h2 h8 hs hcs hascii
open Go.RowKit Go.Lib in
open Go.RowKit Go.Lib in
open Go.RowKit Go.Lib in
open Go.RowKit Go.Lib in
def Sh.lays196_ren : Go.Shelf.Ren := ⟨fun | 196 => 105 | 259 => 130 | n => n, fun | 9 => 9 | 4 => 4 | 3 => 3 | 5 => 5 | 12 => 12 | 119 => 186 | 0 => 0 | 46 => 125 | 139 => 189 | 138 => 188 | 53 => 206 | n => n, fun | 3 => 0 | 4 => 1 | n => n⟩
theorem Sh.lays196 : Go.Proofs.Lays.n196 Tryz.prog Sh.lays196_ren := {
 mixed := by kernel_rfl
 f196 := Tryz.func105.trans (congrArg some (by kernel_rfl))
 f259 := Tryz.func130.trans (congrArg some (by kernel_rfl))
 t0 := Tryz.underlying0
 a0 := Tryz.isAgg0
 z0 := Tryz.sizeOf0
 v0 := Tryz.zeroValue0
 t3 := Tryz.underlying3
 a3 := Tryz.isAgg3
 z3 := Tryz.sizeOf3
 v3 := Tryz.zeroValue3
 t4 := Tryz.underlying4
 a4 := Tryz.isAgg4
 z4 := Tryz.sizeOf4
 v4 := Tryz.zeroValue4
 t5 := Tryz.underlying5
 a5 := Tryz.isAgg5
 z5 := Tryz.sizeOf5
 v5 := Tryz.zeroValue5
 t9 := Tryz.underlying9
 a9 := Tryz.isAgg9
 z9 := Tryz.sizeOf9
 v9 := Tryz.zeroValue9
 t12 := Tryz.underlying12
 a12 := Tryz.isAgg12
 z12 := Tryz.sizeOf12
 v12 := Tryz.zeroValue12
 t46 := Tryz.underlying125
 a46 := Tryz.isAgg125
 z46 := Tryz.sizeOf125
 v46 := Tryz.zeroValue125
 t53 := Tryz.underlying206
 a53 := Tryz.isAgg206
 z53 := Tryz.sizeOf206
 v53 := Tryz.zeroValue206
 t119 := Tryz.underlying186
 a119 := Tryz.isAgg186
 z119 := Tryz.sizeOf186
 t138 := Tryz.underlying188
 a138 := Tryz.isAgg188
 z138 := Tryz.sizeOf188
 v138 := Tryz.zeroValue188
 t139 := Tryz.underlying189
 a139 := Tryz.isAgg189
 z139 := Tryz.sizeOf189
 v139 := Tryz.zeroValue189
 g3 := by kernel_rfl
 g4 := by kernel_rfl }
open Go.RowKit Go.Lib in
theorem Sh.utf8_ValidString (s : ByteArray) (w : World) (hs : s.size ≤ 9223372036854775807) (hT : Lib.Utf8Tabs (Sh.lays196_ren.g 3) (Sh.lays196_ren.g 4) w) :
  Calls Tryz.prog 105 #[.string s] w fun e w' => e = .returned (.bool (Lib.validD s.data.toList)) ∧ Below w.heap.size w w' := Any.utf8_ValidString Sh.lays196 s w hs hT
end
section
open Go.RowKit
abbrev sb (s : ByteArray) : List UInt8 := s.data.toList
theorem sb_length (s : ByteArray) : (sb s).length = s.size := by simp [sb]
theorem strCells_bv (s : ByteArray) : Lib.strCells s = (sb s).map bv := rfl
theorem wpList_append_str {P : Program} {w0 w : World} {ops : Array Oper} {rest : List Oper} {o : Oper} {a : Act} {Q : Exit → Act → World → Prop} (B : Nat) (hb : Below B w0 w) (hgd : o.guard = none) (s x : Operand) (t u : TypeId)
  (ho : o.op = .call { callee := .builtin .append, args := #[s, x], argTypes := #[t, u] })
  (base : Nat) (e : TypeId) (ht : P.underlying t = some (.slice e)) (hu : P.underlying u = some .string) (hi : (P.info? e).map (fun i => (i.zero, i.size, i.bytes)) = some (some (.int .u8 0), 1, 1))
  (v : Value) (n : Nat) (xs : List UInt8) (hs : a.eval s = v) (hown : w.ownsRow base e 1 v n (xs.map bv)) (str : ByteArray) (hx : a.eval x = .string str)
  (hn : n + str.size ≤ 140737488355328) (hbase : base ≤ w.heap.size) (hB : B ≤ base)
  (h : ∀ A' c' w', w'.ownsRow base e 1 (.slice A' (n + str.size) c') (n + str.size) ((xs ++ sb str).map bv) → Below B w0 w' → wpList P ops Q rest (a.put o.dst (.slice A' (n + str.size) c')) w') :
  wpList P ops Q (o :: rest) a w := by
 obtain ⟨i0, hi0, hz0, hz1, hz2⟩ := info_parts hi
 refine Lib.wpList_append_own_string _ hgd s x t u ho base e i0 ht hu hi0 hz0 hz1 hz2 v n _ hs hown str hx (by unfold maxLen; omega) hn hbase ?_
 intro v' w' hown' hg _
 obtain ⟨A, c, rfl, _, _⟩ := own_shape hown'
 refine h A c w' (by rw [List.map_append, ← strCells_bv]; exact hown') (hb.grown hg (Nat.le_trans hB hbase) ?_)
 intro k hk
 exact Nat.le_trans hB (hown.lt k hk).1
def inRB (n l m : Int) : Bool := decide (l ≤ n) && decide (n ≤ m)
theorem inRB_iff {n l m : Int} : inRB n l m = true ↔ l ≤ n ∧ n ≤ m := by simp [inRB]
theorem packWithin (n l m : Int) (w : World) : Calls Tryz.prog 151 #[.int .i64 n, .int .i64 l, .int .i64 m] w fun e w' => e = .returned (.bool (inRB n l m)) ∧ w = w' := by
 by_cases h1 : l ≤ n
 ·by_cases h2 : n ≤ m
  ·have H := Lib.hid (inRB_iff.2 ⟨h1, h2⟩ : inRB n l m = true)
   go_enter Tryz.func151, Tryz.ntmps151
   go_wp2
   go_ret
   exact ⟨by rw [H.out]; rfl, rfl⟩
  ·have H := Lib.hid (Bool.eq_false_iff.2 fun h => h2 (inRB_iff.1 h).2 : inRB n l m = false)
   go_enter Tryz.func151, Tryz.ntmps151
   go_wp2
   go_ret
   exact ⟨by rw [H.out]; rfl, rfl⟩
 ·have H := Lib.hid (Bool.eq_false_iff.2 fun h => h1 (inRB_iff.1 h).1 : inRB n l m = false)
  go_enter Tryz.func151, Tryz.ntmps151
  go_wp2
  go_ret
  exact ⟨by rw [H.out]; rfl, rfl⟩
theorem refId (n : Int) (w : World) : Calls Tryz.prog 74 #[.int .i64 n] w fun e w' => e = .returned (.bool (inRB n 1 65535)) ∧ w = w' := by
 by_cases h1 : (1 : Int) ≤ n
 ·by_cases h2 : n ≤ 65535
  ·have H := Lib.hid (inRB_iff.2 ⟨h1, h2⟩ : inRB n 1 65535 = true)
   go_enter Tryz.func74, Tryz.ntmps74
   go_wp2
   go_ret
   exact ⟨by rw [H.out]; rfl, rfl⟩
  ·have H := Lib.hid (Bool.eq_false_iff.2 fun h => h2 (inRB_iff.1 h).2 : inRB n 1 65535 = false)
   go_enter Tryz.func74, Tryz.ntmps74
   go_wp2
   go_ret
   exact ⟨by rw [H.out]; rfl, rfl⟩
 ·have H := Lib.hid (Bool.eq_false_iff.2 fun h => h1 (inRB_iff.1 h).1 : inRB n 1 65535 = false)
  go_enter Tryz.func74, Tryz.ntmps74
  go_wp2
  go_ret
  exact ⟨by rw [H.out]; rfl, rfl⟩
theorem refNumB (n m : Int) (w : World) : Calls Tryz.prog 24 #[.int .i64 n, .int .i64 m] w fun e w' => e = .returned (.bool (inRB n 0 m)) ∧ w = w' := by
 by_cases h1 : 0 ≤ n
 ·by_cases h2 : n ≤ m
  ·have H := Lib.hid (inRB_iff.2 ⟨h1, h2⟩ : inRB n 0 m = true)
   go_enter Tryz.func24, Tryz.ntmps24
   go_wp2
   go_ret
   exact ⟨by rw [H.out]; rfl, rfl⟩
  ·have H := Lib.hid (Bool.eq_false_iff.2 fun h => h2 (inRB_iff.1 h).2 : inRB n 0 m = false)
   go_enter Tryz.func24, Tryz.ntmps24
   go_wp2
   go_ret
   exact ⟨by rw [H.out]; rfl, rfl⟩
 ·have H := Lib.hid (Bool.eq_false_iff.2 fun h => h1 (inRB_iff.1 h).1 : inRB n 0 m = false)
  go_enter Tryz.func24, Tryz.ntmps24
  go_wp2
  go_ret
  exact ⟨by rw [H.out]; rfl, rfl⟩
theorem packBit (b : Bool) (n : Int) (w : World) : Calls Tryz.prog 161 #[.bool b, .int .i64 n] w fun e w' => e = .returned (.int .i64 (if b then n else 0)) ∧ w = w' := by
 cases b
 all_goals
  go_enter Tryz.func161, Tryz.ntmps161
  go_wp2
  go_ret
  exact ⟨rfl, rfl⟩
theorem refBit (b : Bool) (n : Int) (w : World) : Calls Tryz.prog 76 #[.bool b, .int .u8 n] w fun e w' => e = .returned (.int .u8 (if b then n else 0)) ∧ w = w' := by
 cases b
 all_goals
  go_enter Tryz.func76, Tryz.ntmps76
  go_wp2
  go_ret
  exact ⟨rfl, rfl⟩
theorem litTwo (v : Nat) (hv : v ≤ 65535) : (#[Value.int .u8 ((v : Int) / 256), .int .u8 ((v : Int) % 256)] : Array Value).toList = (big 2 v).map bv := by
 have h1 := byte_hi v hv
 have h2 := byte_lo v
 simp only [big, List.map, bv, Nat.pow_one, Nat.pow_zero, Nat.div_one, h1, h2]
theorem packTwo (base : Nat) (xs : List UInt8) (m : Nat) (A : Option Addr) (c : Nat) (vI : Int) (v : Nat) (hve : vI = (v : Int)) (hv : v ≤ 65535) (w : World)
  (hown : w.ownsRow base 5 1 (.slice A m c) m (xs.map bv)) (hbase : base ≤ w.heap.size) (hn : m ≤ 140737488351232) :
  Calls Tryz.prog 163 #[.slice A m c, .int .i64 vI] w fun e w' => ∃ A' c', e = .returned (.slice A' (m + 2) c') ∧ w'.ownsRow base 5 1 (.slice A' (m + 2) c') (m + 2) ((xs ++ big 2 v).map bv) ∧ Below base w w' := by
 subst hve
 have HO := Lib.hid (own_below hown (balloc w (.cells #[.int .u8 ((v : Int) / 256), .int .u8 ((v : Int) % 256)] 5)))
 have HR := Lib.hid (RB.lit w 5 #[.int .u8 ((v : Int) / 256), .int .u8 ((v : Int) % 256)] (0, 0) (big 2 v) (litTwo v hv))
 have HB := Lib.hid ((Below.refl base w).alloc hbase (.cells #[.int .u8 ((v : Int) / 256), .int .u8 ((v : Int) % 256)] 5))
 have hvI : (v : Int) ≤ 65535 := by omega
 clear hown
 go_enter Tryz.func163, Tryz.ntmps163
 go_wp2_with (at_builtin; refine wpList_append_bytes base HB.out rfl _ _ 31 rfl base 5 Tryz.underlying31 info_u8 _ _ xs (by exact rfl) HO.out (some ⟨w.heap.size, 0, none⟩) 2 2 (big 2 v) rfl (by exact rfl) HR.out (by omega) (by simp; omega) (Nat.le_refl _) ?_; intro A' c' w' hown' hb')
 go_ret
 exact ⟨A', c', rfl, hown', hb'⟩
theorem packText (base : Nat) (xs : List UInt8) (m : Nat) (A : Option Addr) (c : Nat) (s : ByteArray) (hs : s.size ≤ 65535) (w : World)
  (hown : w.ownsRow base 5 1 (.slice A m c) m (xs.map bv)) (hbase : base ≤ w.heap.size) (hn : m ≤ 140737488251232) :
  Calls Tryz.prog 162 #[.slice A m c, .string s] w fun e w' => ∃ A' c', e = .returned (.slice A' (m + 2 + s.size) c') ∧ w'.ownsRow base 5 1 (.slice A' (m + 2 + s.size) c') (m + 2 + s.size) ((xs ++ big 2 s.size ++ sb s).map bv) ∧ Below base w w' := by
 have K1 := Lib.hid (packTwo base xs m A c (s.size : Int) s.size rfl hs w hown hbase (by omega))
 clear hown
 go_enter Tryz.func162, Tryz.ntmps162
 go_wp2_with fail
 (with_reducible refine K1.out.mono ?_)
 rintro _ w1 ⟨A1, c1, rfl, ho1, hb1⟩
 have hs1 : base ≤ w1.heap.size := Nat.le_trans hbase hb1.size
 go_wp2_with (at_builtin; apply wpList_append_str base hb1 rfl _ _ 31 9 rfl base 5 Tryz.underlying31 Tryz.underlying9 info_u8 _ _ _ ?_ ho1 s ?_ ?_ hs1 (Nat.le_refl _) ?_; exact rfl; exact rfl; omega; intro A' c' w' hown' hb')
 go_ret
 exact ⟨A', c', rfl, hown', hb'⟩
end
section
open Go.RowKit
def plainOf : List UInt8 → Bool
 | [] => true
 | x :: xs => if x == 43 || x == 35 then false else plainOf xs
theorem sb_drop (s : ByteArray) (k : Nat) (h : k < s.size) : (sb s).drop k = s[k] :: (sb s).drop (k + 1) := by
 rw [List.drop_eq_getElem_cons (by rw [sb_length]; exact h)]
 rfl
theorem byte_eq (u v : UInt8) : ((u.toNat : Int) = (v.toNat : Int)) ↔ u = v := by
 constructor
 ·intro h
  exact UInt8.toNat_inj.1 (by omega)
 ·rintro rfl
  rfl
theorem plain_hit {xs zs ys : List UInt8} {u : UInt8} (hf : plainOf zs = plainOf xs) (hd : zs = u :: ys) (h : (u.toNat : Int) = 43 ∨ (u.toNat : Int) = 35) : plainOf xs = false := by
 rw [← hf, hd, plainOf]
 rcases h with h | h
 ·rw [(byte_eq u 43).1 h]; rfl
 ·rw [(byte_eq u 35).1 h]; rfl
theorem plain_miss {xs zs ys : List UInt8} {u : UInt8} (hf : plainOf zs = plainOf xs) (hd : zs = u :: ys) (h1 : ¬ (u.toNat : Int) = 43) (h2 : ¬ (u.toNat : Int) = 35) : plainOf ys = plainOf xs := by
 rw [← hf, hd, plainOf]
 have a : (u == 43) = false := by simpa using fun e => h1 (by rw [e]; rfl)
 have b : (u == 35) = false := by simpa using fun e => h2 (by rw [e]; rfl)
 rw [a, b]; rfl
theorem plain_end {xs zs : List UInt8} (hf : plainOf zs = plainOf xs) (hd : zs = []) : plainOf xs = true := by
 rw [← hf, hd]; rfl
theorem refPlain (s : ByteArray) (hs : s.size ≤ 140737488351232) (w : World) :
  Calls Tryz.prog 73 #[.string s] w fun e w' => e = .returned (.bool (plainOf (sb s))) ∧ w = w' := by
 have HF := Lib.hid (show plainOf ((sb s).drop 0) = plainOf (sb s) from rfl)
 go_enter Tryz.func73, Tryz.ntmps73
 go_wp2
 go_loop [2, 3] (fun v i => ∃ k : Nat, i = .int .i64 k ∧ v = .bool false ∧ k ≤ s.size ∧ Hid (plainOf ((sb s).drop k) = plainOf (sb s))) (fun _ i => s.size - (intOf i).toNat)
 case atStart => exact ⟨0, rfl, rfl, Nat.zero_le _, HF⟩
 case round =>
  obtain ⟨k, rfl, rfl, hk, hf⟩ := hrel
  by_cases hlt : k < s.size
  ·have hd := Lib.hid (sb_drop s k hlt)
   by_cases h1 : (s[k].toNat : Int) = 43
   ·have HP := Lib.hid (plain_hit hf.out hd.out (Or.inl h1))
    clear hf hd
    go_wp2
    go_ret
    exact ⟨by rw [HP.out]; rfl, rfl⟩
   ·by_cases h2 : (s[k].toNat : Int) = 35
    ·have HP := Lib.hid (plain_hit hf.out hd.out (Or.inr h2))
     clear hf hd
     go_wp2
     go_ret
     exact ⟨by rw [HP.out]; rfl, rfl⟩
    ·have HP := Lib.hid (plain_miss hf.out hd.out h1 h2)
     have e1 : ((s[k].toNat : Int) == 43) = false := by rw [beq_eq_false_iff_ne]; exact h1
     have e2 : ((s[k].toNat : Int) == 35) = false := by rw [beq_eq_false_iff_ne]; exact h2
     clear h1 h2
     clear hf hd
     go_wp2
     go_round
     case rel => exact ⟨k + 1, by go_num, rfl, by omega, HP⟩
     case measure => simp [intOf]; omega
  ·have HP := Lib.hid (plain_end hf.out (List.drop_eq_nil_of_le (by rw [sb_length]; omega)))
   clear hf
   go_wp2
   go_ret
   exact ⟨by rw [HP.out]; rfl, rfl⟩
end
section
open Go.RowKit
def noZero : List UInt8 → Bool
 | [] => true
 | x :: xs => if x == 0 then false else noZero xs
theorem zero_hit {xs zs ys : List UInt8} {u : UInt8} (hf : noZero zs = noZero xs) (hd : zs = u :: ys) (h : (u.toNat : Int) = 0) : noZero xs = false := by
 rw [← hf, hd, noZero, (byte_eq u 0).1 h]; rfl
theorem zero_miss {xs zs ys : List UInt8} {u : UInt8} (hf : noZero zs = noZero xs) (hd : zs = u :: ys) (h1 : ¬ (u.toNat : Int) = 0) : noZero ys = noZero xs := by
 rw [← hf, hd, noZero]
 have a : (u == 0) = false := by simpa using fun e => h1 (by rw [e]; rfl)
 rw [a]; rfl
theorem zero_end {xs zs : List UInt8} (hf : noZero zs = noZero xs) (hd : zs = []) : noZero xs = true := by
 rw [← hf, hd]; rfl
def textB (vb : Bool) (s : ByteArray) (l m : Int) : Bool := inRB s.size l m && (vb && noZero (sb s))
theorem refTextW (s : ByteArray) (hs : s.size ≤ 140737488351232) (l m : Int) (vb : Bool) (w : World)
  (hv : Calls Tryz.prog 105 #[.string s] w fun e w' => e = .returned (.bool vb) ∧ Below w.heap.size w w') :
  Calls Tryz.prog 71 #[.string s, .int .i64 l, .int .i64 m] w fun e w' => e = .returned (.bool (textB vb s l m)) ∧ Below w.heap.size w w' := by
 have HF := Lib.hid (show noZero ((sb s).drop 0) = noZero (sb s) from rfl)
 have HV := Lib.hid hv
 clear hv
 by_cases h1 : (s.size : Int) < l
 ·have HP := Lib.hid (show textB vb s l m = false by unfold textB; rw [show inRB s.size l m = false from Bool.eq_false_iff.2 fun h => absurd (inRB_iff.1 h).1 (by omega)]; rfl)
  go_enter Tryz.func71, Tryz.ntmps71
  go_wp2
  go_ret
  exact ⟨by rw [HP.out]; rfl, Below.refl _ _⟩
 by_cases h2 : m < (s.size : Int)
 ·have HP := Lib.hid (show textB vb s l m = false by unfold textB; rw [show inRB s.size l m = false from Bool.eq_false_iff.2 fun h => absurd (inRB_iff.1 h).2 (by omega)]; rfl)
  go_enter Tryz.func71, Tryz.ntmps71
  go_wp2
  go_ret
  exact ⟨by rw [HP.out]; rfl, Below.refl _ _⟩
 have HI : Hid (textB vb s l m = (vb && noZero (sb s))) := Lib.hid (by unfold textB; rw [inRB_iff.2 ⟨by omega, by omega⟩]; rfl)
 cases vb with
 | false =>
  go_enter Tryz.func71, Tryz.ntmps71
  go_wp2_with (go_at_call 105; (with_reducible refine HV.out.mono ?_); rintro _ w1 ⟨rfl, hb1⟩; have hb2 := Lib.hid hb1; clear hb1)
  go_ret
  exact ⟨by rw [HI.out]; rfl, hb2.out⟩
 | true =>
  go_enter Tryz.func71, Tryz.ntmps71
  go_wp2_with (go_at_call 105; (with_reducible refine HV.out.mono ?_); rintro _ w1 ⟨rfl, hb1⟩; have hb2 := Lib.hid hb1; clear hb1)
  clear HV
  go_loop [6, 7] (fun v i => ∃ k : Nat, i = .int .i64 k ∧ v = .bool false ∧ k ≤ s.size ∧ Hid (noZero ((sb s).drop k) = noZero (sb s))) (fun _ i => s.size - (intOf i).toNat)
  case atStart => exact ⟨0, rfl, rfl, Nat.zero_le _, HF⟩
  case round =>
   obtain ⟨k, rfl, rfl, hk, hf⟩ := hrel
   by_cases hlt : k < s.size
   ·have hd := Lib.hid (sb_drop s k hlt)
    by_cases h1 : (s[k].toNat : Int) = 0
    ·have HP := Lib.hid (zero_hit hf.out hd.out h1)
     clear hf hd
     go_wp2
     go_ret
     exact ⟨by rw [HI.out, HP.out]; rfl, hb2.out⟩
    ·have HP := Lib.hid (zero_miss hf.out hd.out h1)
     have e1 : ((s[k].toNat : Int) == 0) = false := by rw [beq_eq_false_iff_ne]; exact h1
     clear hf hd h1
     go_wp2
     go_round
     case rel => exact ⟨k + 1, by go_num, rfl, by omega, HP⟩
     case measure => simp [intOf]; omega
   ·have HP := Lib.hid (zero_end hf.out (List.drop_eq_nil_of_le (by rw [sb_length]; omega)))
    clear hf
    go_wp2
    go_ret
    exact ⟨by rw [HI.out, HP.out]; rfl, hb2.out⟩
end
section
open Go.RowKit
theorem packTextW (s : ByteArray) (_hs : s.size ≤ 140737488351232) (l m : Int) (vb : Bool) (w : World)
  (hv : Calls Tryz.prog 105 #[.string s] w fun e w' => e = .returned (.bool vb) ∧ Below w.heap.size w w')
  (hc : ∀ w1, Below w.heap.size w w1 → Calls Tryz.prog 168 #[.string s, .string { data := #[0] }] w1 fun e w' => e = .returned (.bool (!noZero (sb s))) ∧ Below w1.heap.size w1 w') :
  Calls Tryz.prog 165 #[.string s, .int .i64 l, .int .i64 m] w fun e w' => e = .returned (.bool (textB vb s l m)) ∧ Below w.heap.size w w' := by
 have HV := Lib.hid hv
 have HC := Lib.hid hc
 have HW := Lib.hid (packWithin (s.size : Int) l m w)
 clear hv hc
 cases hb : inRB s.size l m with
 | false =>
  rw [hb] at HW
  have HP := Lib.hid (show textB vb s l m = false by unfold textB; rw [hb]; rfl)
  go_enter Tryz.func165, Tryz.ntmps165
  go_wp2_with (go_at_call 151; (with_reducible refine HW.out.mono ?_); rintro _ w1 ⟨rfl, rfl⟩)
  go_ret
  exact ⟨by rw [HP.out]; rfl, Below.refl _ _⟩
 | true =>
  rw [hb] at HW
  have HI := Lib.hid (show textB vb s l m = (vb && noZero (sb s)) by unfold textB; rw [hb]; rfl)
  cases vb with
  | false =>
   go_enter Tryz.func165, Tryz.ntmps165
   go_wp2_with (first
    | (go_at_call 151; (with_reducible refine HW.out.mono ?_); rintro _ w1 ⟨rfl, rfl⟩)
    | (go_at_call 105; (with_reducible refine HV.out.mono ?_); rintro _ w2 ⟨rfl, hb2⟩; have HB2 := Lib.hid hb2; clear hb2))
   go_ret
   exact ⟨by rw [HI.out]; rfl, HB2.out⟩
  | true =>
   go_enter Tryz.func165, Tryz.ntmps165
   go_wp2_with (first
    | (go_at_call 151; (with_reducible refine HW.out.mono ?_); rintro _ w1 ⟨rfl, rfl⟩)
    | (go_at_call 105; (with_reducible refine HV.out.mono ?_); rintro _ w2 ⟨rfl, hb2⟩; have HB2 := Lib.hid hb2; clear hb2)
    | (go_at_call 168; (with_reducible refine (HC.out w2 HB2.out).mono ?_); rintro _ w3 ⟨rfl, hb3⟩; have HB3 := Lib.hid (HB2.out.trans (hb3.mono HB2.out.size)); clear hb3))
   go_ret
   exact ⟨by rw [HI.out]; simp, HB3.out⟩
end
section
open Go.RowKit
structure Mq where
 kind : Int
 client : ByteArray
 clean : Bool
 keep : Int
 won : Bool
 wt : ByteArray
 wp : ByteArray
 wq : Int
 wr : Bool
 user : ByteArray
 hu : Bool
 pass : ByteArray
 hp : Bool
 present : Bool
 code : Int
 codes : List Int
 dup : Bool
 qos : Int
 retain : Bool
 topic : ByteArray
 id : Int
 payload : ByteArray
 wishes : List (ByteArray × Int)
 filters : List ByteArray
abbrev nos : ByteArray := ⟨#[]⟩
def mq0 (k : Int) : Mq := ⟨k, nos, false, 0, false, nos, nos, 0, false, nos, false, nos, false, false, 0, [], false, 0, false, nos, 0, nos, [], []⟩
def vd (s : ByteArray) : Bool := Lib.validD (sb s)
def textOk (s : ByteArray) (l m : Int) : Bool := textB (vd s) s l m
def topicOk (s : ByteArray) : Bool := textOk s 1 64 && plainOf (sb s)
def emp (s : ByteArray) : Bool := s.size == 0
def willOk (m : Mq) : Bool := if m.won then textOk m.wt 1 64 && (decide ((m.wp.size : Int) ≤ 128) && inRB m.wq 0 2) else emp m.wt && (emp m.wp && (m.wq == 0 && !m.wr))
def connectOk (m : Mq) : Bool :=
 textOk m.client 0 23 && (inRB m.keep 0 65535 && (willOk m && (textOk m.user 0 64 && (decide ((m.pass.size : Int) ≤ 64) && ((m.hu || (emp m.user && !m.hp)) && (m.hp || emp m.pass))))))
def publishOk (m : Mq) : Bool :=
 topicOk m.topic && (inRB m.qos 0 2 && (((decide (0 < m.qos) && inRB m.id 1 65535) || (m.qos == 0 && (m.id == 0 && !m.dup))) && decide ((m.payload.size : Int) ≤ 128)))
def wishesAll : List (ByteArray × Int) → Bool
 | [] => true
 | x :: xs => (textOk x.1 1 64 && inRB x.2 0 2) && wishesAll xs
def codesAll : List Int → Bool
 | [] => true
 | x :: xs => (inRB x 0 2 || x == 128) && codesAll xs
def filtersAll : List ByteArray → Bool
 | [] => true
 | x :: xs => textOk x 1 64 && filtersAll xs
def wishesOk (l : List (ByteArray × Int)) : Bool := wishesAll l && inRB l.length 1 8
def codesOk (l : List Int) : Bool := codesAll l && inRB l.length 1 8
def filtersOk (l : List ByteArray) : Bool := filtersAll l && inRB l.length 1 8
def idKind (k : Int) : Bool := k == 4 || (k == 5 || (k == 6 || (k == 7 || k == 11)))
def bareKind (k : Int) : Bool := k == 12 || (k == 13 || k == 14)
def okOf (m : Mq) : Bool :=
 if m.kind = 1 then connectOk m
 else if m.kind = 2 then inRB m.code 0 5 && (!m.present || m.code == 0)
 else if m.kind = 3 then publishOk m
 else if idKind m.kind then inRB m.id 1 65535
 else if m.kind = 8 then inRB m.id 1 65535 && wishesOk m.wishes
 else if m.kind = 9 then inRB m.id 1 65535 && codesOk m.codes
 else if m.kind = 10 then inRB m.id 1 65535 && filtersOk m.filters
 else bareKind m.kind
def onlyOf (m : Mq) : Mq :=
 if m.kind = 1 then { mq0 m.kind with client := m.client, clean := m.clean, keep := m.keep, won := m.won, wt := m.wt, wp := m.wp, wq := m.wq, wr := m.wr, user := m.user, hu := m.hu, pass := m.pass, hp := m.hp }
 else if m.kind = 2 then { mq0 m.kind with present := m.present, code := m.code }
 else if m.kind = 3 then { mq0 m.kind with topic := m.topic, qos := m.qos, dup := m.dup, retain := m.retain, id := m.id, payload := m.payload }
 else if idKind m.kind then { mq0 m.kind with id := m.id }
 else if m.kind = 8 then { mq0 m.kind with id := m.id, wishes := m.wishes }
 else if m.kind = 9 then { mq0 m.kind with id := m.id, codes := m.codes }
 else if m.kind = 10 then { mq0 m.kind with id := m.id, filters := m.filters }
 else mq0 m.kind
def mayB (m : Mq) : Prop := okOf m = true ∧ m = onlyOf m
def strB (s : ByteArray) : List UInt8 := big 2 s.size ++ sb s
def cb (b : Bool) (n : Nat) : Nat := if b then n else 0
def flagsC (m : Mq) : Nat := cb m.clean 2 + cb m.won 4 + 8 * m.wq.toNat + cb m.wr 32 + cb m.hp 64 + cb m.hu 128
def connectBy (m : Mq) : List UInt8 :=
 big 2 4 ++ [77, 81, 84, 84] ++ [4, UInt8.ofNat (flagsC m)] ++ big 2 m.keep.toNat ++ strB m.client
  ++ (if m.won then strB m.wt ++ strB m.wp else []) ++ (if m.hu then strB m.user else []) ++ (if m.hp then strB m.pass else [])
def publishBy (m : Mq) : List UInt8 := strB m.topic ++ (if 0 < m.qos then big 2 m.id.toNat else []) ++ sb m.payload
def wishesBy : List (ByteArray × Int) → List UInt8
 | [] => []
 | x :: xs => strB x.1 ++ [UInt8.ofNat x.2.toNat] ++ wishesBy xs
def codesBy : List Int → List UInt8
 | [] => []
 | x :: xs => UInt8.ofNat x.toNat :: codesBy xs
def filtersBy : List ByteArray → List UInt8
 | [] => []
 | x :: xs => strB x ++ filtersBy xs
def bodyBy (m : Mq) : List UInt8 :=
 if m.kind = 1 then connectBy m
 else if m.kind = 2 then [UInt8.ofNat (cb m.present 1), UInt8.ofNat m.code.toNat]
 else if m.kind = 3 then publishBy m
 else if m.kind = 8 then big 2 m.id.toNat ++ wishesBy m.wishes
 else if m.kind = 9 then big 2 m.id.toNat ++ codesBy m.codes
 else if m.kind = 10 then big 2 m.id.toNat ++ filtersBy m.filters
 else if bareKind m.kind then []
 else big 2 m.id.toNat
def flagsBy (m : Mq) : Nat :=
 if m.kind = 3 then cb m.dup 8 + 2 * m.qos.toNat + cb m.retain 1
 else if m.kind = 8 then 2 else if m.kind = 10 then 2 else if m.kind = 6 then 2 else 0
def vlen (n : Nat) : List UInt8 := if n < 128 then [UInt8.ofNat n] else UInt8.ofNat (n % 128 + 128) :: vlen (n / 128)
decreasing_by omega
def layB (m : Mq) : List UInt8 := UInt8.ofNat (16 * m.kind.toNat + flagsBy m) :: (vlen (bodyBy m).length ++ bodyBy m)
end
section
open Go.RowKit
def Wd (w : World) : Prop := Lib.Utf8Tabs (Sh.lays196_ren.g 3) (Sh.lays196_ren.g 4) w
theorem Wd.below {w w' : World} (h : Wd w) (hb : Below w.heap.size w w') : Wd w' := by
 obtain ⟨h1, h2⟩ := h
 have k : ∀ (a : Addr) (v : Value), w.cell? a = some v → w'.cell? a = some v := fun a v hv => (hb.cell (World.block_lt_of_cell? w a hv)).trans hv
 exact ⟨fun c hc => k _ _ (h1 c hc), fun i hi => ⟨k _ _ (h2 i hi).1, k _ _ (h2 i hi).2⟩⟩
theorem validW (s : ByteArray) (hs : s.size ≤ 140737488351232) (w : World) (hT : Wd w) :
  Calls Tryz.prog 105 #[.string s] w fun e w' => e = .returned (.bool (vd s)) ∧ Below w.heap.size w w' := Sh.utf8_ValidString s w (by omega) hT
theorem contains_noZero (xs : List UInt8) : xs.contains 0 = !noZero xs := by
 induction xs with
 | nil => rfl
 | cons x xs ih =>
  by_cases h : x = 0
  ·subst h; simp [noZero]
  ·have h1 : (x == 0) = false := by simpa using h
   have h2 : ((0 : UInt8) == x) = false := by simpa using fun e => h e.symm
   simp only [List.contains_cons, h2, Bool.false_or, ih, noZero, h1]
   rfl
theorem zeroW (s : ByteArray) (w : World) :
  Calls Tryz.prog 168 #[.string s, .string { data := #[0] }] w fun e w' => e = .returned (.bool (!noZero (sb s))) ∧ w = w' := by
 refine (Sh.strings_Contains_one s 0 w).mono ?_
 rintro e w' ⟨rfl, rfl⟩
 refine ⟨?_, rfl⟩
 rw [← contains_noZero, Lib.contains_iff_indexByte]
theorem quiet_add_same {P : Program} {f : FuncId} {args : Array Value} {w : World} {a n : Nat} {v : Value}
  (h : Calls P f args (w.drewN (a + n)) fun e w' => e = .returned v ∧ w' = w.drewN (a + n)) :
  Calls P f args (w.drewN (a + n)) fun e w'' => e = .returned v ∧ ∃ m, w'' = w.drewN (a + m) :=
 h.mono fun _ _ ⟨he, hm⟩ => ⟨he, n, hm⟩
theorem same_left {P : Program} {f : FuncId} {args : Array Value} {w : World} {v : Value} (h : Calls P f args w fun e w' => e = .returned v ∧ w' = w) : Calls P f args w fun e w' => e = .returned v ∧ w = w' :=
 h.mono fun _ _ ⟨a, b⟩ => ⟨a, b.symm⟩
abbrev pm : ByteArray := { data := #[43, 35] }
theorem decode_span (s : ByteArray) (pos : Nat) (h : pos < s.size) (ha : 128 ≤ (s[pos]'h).toNat) : ∀ j, j < (Utf8.decode s pos).2 → pos + j < s.size ∧ 128 ≤ (s.get! (pos + j)).toNat := by
 have h0 : 128 ≤ (s.get! (pos + 0)).toNat := by rw [get_at s pos h]; exact ha
 have hn : ¬ (s.get! (pos + 0)).toNat < 128 := by omega
 have hp : pos + 0 < s.size := h
 intro j hj
 simp only [Utf8.decode, hn, if_false] at hj
 have k2 : ∀ k, (decide (pos + k < s.size) && ((s.get! (pos + k)).toNat / 64 == 2)) = true → pos + k < s.size ∧ 128 ≤ (s.get! (pos + k)).toNat := by
  intro k hk
  simp only [Bool.and_eq_true, decide_eq_true_eq, beq_iff_eq] at hk
  exact ⟨hk.1, by omega⟩
 have one : ∀ {j}, j < 1 → pos + j < s.size ∧ 128 ≤ (s.get! (pos + j)).toNat := fun {j} hj => by
  obtain rfl : j = 0 := by omega
  exact ⟨hp, h0⟩
 split at hj
 ·rename_i hc
  simp only [Bool.and_eq_true] at hc
  split at hj
  ·have hj' : j = 0 ∨ j = 1 := by simp only at hj; omega
   rcases hj' with rfl | rfl
   ·exact ⟨hp, h0⟩
   ·exact k2 1 (by simpa using hc.2)
  ·exact one hj
 ·split at hj
  ·rename_i hc
   simp only [Bool.and_eq_true] at hc
   split at hj
   ·have hj' : j = 0 ∨ j = 1 ∨ j = 2 := by simp only at hj; omega
    rcases hj' with rfl | rfl | rfl
    ·exact ⟨hp, h0⟩
    ·exact k2 1 (by simpa using hc.1.2)
    ·exact k2 2 (by simpa using hc.2)
   ·exact one hj
  ·split at hj
   ·rename_i hc
    simp only [Bool.and_eq_true] at hc
    split at hj
    ·have hj' : j = 0 ∨ j = 1 ∨ j = 2 ∨ j = 3 := by simp only at hj; omega
     rcases hj' with rfl | rfl | rfl | rfl
     ·exact ⟨hp, h0⟩
     ·exact k2 1 (by simpa using hc.1.1.2)
     ·exact k2 2 (by simpa using hc.1.2)
     ·exact k2 3 (by simpa using hc.2)
    ·exact one hj
   ·exact one hj
theorem plain_skip (s : ByteArray) (pos : Nat) : ∀ n, (∀ j, j < n → pos + j < s.size ∧ 128 ≤ (s.get! (pos + j)).toNat) → plainOf ((sb s).drop (pos + n)) = plainOf ((sb s).drop pos)
 | 0, _ => rfl
 | n + 1, h => by
  rw [← plain_skip s pos n (fun j hj => h j (by omega))]
  obtain ⟨h1, h2⟩ := h n (by omega)
  have e : s.get! (pos + n) = s[pos + n]'h1 := get_at s (pos + n) h1
  rw [e] at h2
  rw [sb_drop s (pos + n) h1, plainOf]
  have a : (s[pos + n] == 43) = false := by rw [beq_eq_false_iff_ne]; intro e; rw [e] at h2; exact absurd h2 (by decide)
  have b : (s[pos + n] == 35) = false := by rw [beq_eq_false_iff_ne]; intro e; rw [e] at h2; exact absurd h2 (by decide)
  rw [a, b]
  rfl
theorem runeHigh (r : Int) (h1 : 128 ≤ r) (h2 : r ≤ 2147483647) (w : World) :
  Calls Tryz.prog 173 #[.string pm, .int .i32 r] w fun e w' => e = .returned (.int .i64 (-1)) ∧ Below w.heap.size w w' := by
 have h0 : (0 : Int) ≤ r := by omega
 have h128 : decide (r < 128) = false := decide_eq_false (by omega)
 by_cases hE : r = 65533
 ·subst hE
  go_enter Tryz.func173, Tryz.ntmps173
  go_wp2
  go_loopg [5, 6] 2 (fun gk _ _ wx => ∃ i : Nat, i + gk = 2 ∧ wx = w.iter pm i)
  case atStart => exact ⟨0, rfl, rfl⟩
  case round =>
   obtain ⟨i, hig, rfl⟩ := hrel
   cases gk with
   | zero =>
    obtain rfl : i = 2 := by omega
    have hnx := run_next_end (P := Tryz.prog) w pm 2
    go_wp2
    go_ret
    exact ⟨rfl, balloc w _⟩
   | succ g =>
    have hi : i = 0 ∨ i = 1 := by omega
    rcases hi with rfl | rfl
    ·have hnx := fun ty => run_next_ascii (P := Tryz.prog) w pm 0 ty (by decide) (by decide)
     go_wp2
     go_roundg g
     case measure => omega
     case rel => exact ⟨1, by omega, rfl⟩
    ·have hnx := fun ty => run_next_ascii (P := Tryz.prog) w pm 1 ty (by decide) (by decide)
     go_wp2
     go_roundg g
     case measure => omega
     case rel => exact ⟨2, by omega, rfl⟩
 ·have hE' : (r == 65533) = false := by rw [beq_eq_false_iff_ne]; exact hE
  have KV := Lib.hid (Sh.utf8_ValidRune r w)
  cases hv : Lib.validRune r with
  | false =>
   rw [hv] at KV
   go_enter Tryz.func173, Tryz.ntmps173
   go_wp2_with (go_at_call 182; (with_reducible refine KV.out.mono ?_); rintro _ w' ⟨rfl, rfl⟩)
   go_ret
   exact ⟨rfl, Below.refl _ _⟩
  | true =>
   rw [hv] at KV
   have hu : Utf8.valid r = true := by
    have := hv
    simp only [Lib.validRune, decide_eq_true_eq] at this
    simp [Utf8.valid]
    omega
   obtain ⟨s2, s4, slast⟩ := encode_facts r hu h1
   obtain ⟨nd, hnd⟩ : ∃ nd, Utf8.encode r = nd := ⟨_, rfl⟩
   rw [hnd] at s2 s4 slast
   have hs : nd.size = 2 ∨ 2 < nd.size := by omega
   clear hu
   rcases hs with hs | hs
   ·have hl : 128 ≤ (nd[1]'(by omega)).toNat := by
     have := slast (by omega)
     simpa [hs] using this
    have hi1 : (1 : Nat) < nd.size := by omega
    have hi1I : (1 : Int) < (nd.size : Int) := by omega
    obtain ⟨y, hy⟩ : ∃ y, nd[1]'(by omega) = y := ⟨_, rfl⟩
    rw [hy] at hl
    have hne : (((pm[1]'(by decide)).toNat : Int) != (y.toNat : Int)) = true := by
     have : (pm[1]'(by decide)).toNat = 35 := rfl
     rw [bne_iff_ne, this]
     omega
    go_enter Tryz.func173, Tryz.ntmps173
    go_wp2_with (go_at_call 182; (with_reducible refine KV.out.mono ?_); rintro _ w' ⟨rfl, rfl⟩)
    refine wp_scope_fwd 1 rfl ?_
    go_wp2
    refine wp_loop_rounds 1 ?_
    rw [rounds_succ]
    go_wp2
    refine wp_scope_fwd 0 rfl ?_
    go_wp2
    go_quiet (fail)
    go_wp2
    have hw2 : IntKind.i64.wrap 2 = 2 := by decide
    have hix : ∀ c : UInt8, Lib.indexByte (pm.extract 2 2).data.toList c = -1 := fun c => rfl
    go_quiet ((go_at_call 181; exact quiet_add_same (Sh.strings_IndexByte _ _ _)))
    go_wp2
    simp only [Exit.jump]
    go_wp2
    simp only [Exit.jump]
    go_ret
    exact ⟨rfl, below_drewN (Below.refl _ _) _⟩
   ·have e1 : (2 : Int) ≤ (nd.size : Int) - 1 := by omega
    go_enter Tryz.func173, Tryz.ntmps173
    go_wp2_with (go_at_call 182; (with_reducible refine KV.out.mono ?_); rintro _ w' ⟨rfl, rfl⟩)
    refine wp_scope_fwd 1 rfl ?_
    go_wp2
    refine wp_loop_rounds 1 ?_
    rw [rounds_succ]
    go_wp2
    simp only [Exit.jump]
    go_ret
    exact ⟨rfl, Below.refl _ _⟩
theorem plain_any (xs : List UInt8) : decide (0 ≤ Lib.indexAny xs (sb pm)) = !plainOf xs := by
 induction xs with
 | nil => rfl
 | cons x xs ih =>
  have h1 := Lib.indexAny_ge (sb pm) xs
  by_cases h : x = 43 ∨ x = 35
  ·have hc : (sb pm).contains x = true := by rcases h with rfl | rfl <;> rfl
   have hp : plainOf (x :: xs) = false := by rw [plainOf]; rcases h with rfl | rfl <;> rfl
   rw [hp, Lib.indexAny, if_pos hc]
   rfl
  ·have a : (x == 43) = false := by rw [beq_eq_false_iff_ne]; exact fun e => h (Or.inl e)
   have b : (x == 35) = false := by rw [beq_eq_false_iff_ne]; exact fun e => h (Or.inr e)
   have hc : (sb pm).contains x = false := by
    show [(43 : UInt8), 35].contains x = false
    rw [List.contains_cons, List.contains_cons, List.contains_nil, a, b]
    rfl
   have hp : plainOf (x :: xs) = plainOf xs := by rw [plainOf, a, b]; rfl
   rw [hp, ← ih, Lib.indexAny, hc, if_neg (by simp)]
   by_cases hm : Lib.indexAny xs (sb pm) = -1
   ·rw [hm]; rfl
   ·have hm2 : (Lib.indexAny xs (sb pm) == -1) = false := by rw [beq_eq_false_iff_ne]; exact hm
    rw [hm2]
    have h0 : 0 ≤ Lib.indexAny xs (sb pm) := by omega
    rw [if_neg (by simp), decide_eq_true h0, decide_eq_true (by omega)]
def AnyPm (s : ByteArray) (w : World) (e : Ending) (w' : World) : Prop := ∃ v : Int, e = .returned (.int .i64 v) ∧ decide (0 ≤ v) = !plainOf (sb s) ∧ Below w.heap.size w w'
theorem anyLong (s : ByteArray) (h8 : 8 < s.size) (hs : s.size < 4294967281) (w : World) : Calls Tryz.prog 171 #[.string s, .string pm] w (AnyPm s w) := by
 refine (Sh.strings_IndexAny_long (fun _ => by kernel_rfl) s pm w (by decide) h8 hs (by decide) ?_).mono ?_
 ·intro j b hb
  match j, hb with
  | 0, hb => simp at hb; subst hb; decide
  | 1, hb => simp at hb; subst hb; decide
 ·rintro e w' ⟨rfl, rfl⟩
  exact ⟨_, rfl, plain_any (sb s), (balloc w _).trans ((balloc _ _).mono (balloc w _).size)⟩
theorem anyShort (s : ByteArray) (h8 : s.size ≤ 8) (w : World) : Calls Tryz.prog 171 #[.string s, .string pm] w (AnyPm s w) := by
 have h8z : decide ((8 : Int) < (s.size : Int)) = false := decide_eq_false (by omega)
 go_enter Tryz.func171, Tryz.ntmps171
 go_wp2_with (go_at_call 174; (with_reducible refine (same_left (Sh.strings_shouldUseASCIISet _ _)).mono ?_); rintro e w' ⟨rfl, rfl⟩)
 go_loopg [9, 10] (s.size + 1) (fun gk _ _ wx => ∃ (i : Nat), s.size < i + gk ∧ i ≤ s.size ∧ Hid (wx.heap[w.heap.size]? = some (.stringIter s i)) ∧ Below w.heap.size w wx ∧ Hid (plainOf ((sb s).drop i) = plainOf (sb s)))
 case atStart => exact ⟨0, by omega, by omega, World.iter_heap w s 0, balloc w _, rfl⟩
 case round =>
  obtain ⟨i, hig, his, hk, hbel, hp⟩ := hrel
  by_cases hi : i < s.size
  ·have hd := sb_drop s i hi
   by_cases ha : (s[i]'hi).toNat < 128
   ·obtain ⟨x, hx⟩ : ∃ x : UInt8, s[i]'hi = x := ⟨_, rfl⟩
    rw [hx] at ha hd
    have hnx := fun ty => Lib.run_next_ascii_at (P := Tryz.prog) wr w.heap.size s i ty hk.out hi (by rw [hx]; exact ha)
    rw [hx] at hnx
    have hback : ((x.toNat : Int)).toNat.toUInt8 = x := by simp
    have KR := Lib.hid (fun w1 => same_left (Sh.strings_IndexRune_ascii pm (x.toNat : Int) w1 (by omega) (by omega)))
    rw [hback] at KR
    obtain ⟨v, hv⟩ : ∃ v, Lib.indexByte pm.data.toList x = v := ⟨_, rfl⟩
    rw [hv] at KR
    have hb2 := Lib.hid (Lib.below_iterAt hbel (Nat.le_refl _) s (i + 1))
    have hk2 : Hid ((wr.iterAt w.heap.size s (i + 1)).heap[w.heap.size]? = some (.stringIter s (i + 1))) := Lib.iterAt_heap wr w.heap.size s i (i + 1) hk.out
    have hg1 : 1 ≤ gk := by omega
    by_cases hb : x = 43 ∨ x = 35
    ·have hge : 0 ≤ v := by
      rw [← hv]
      rcases hb with rfl | rfl <;> decide
     have hf : Hid (plainOf (sb s) = false) := by
      unfold Hid
      rw [← hp.out, hd, plainOf]
      rcases hb with rfl | rfl <;> rfl
     clear hb hv hback hd hx hp ha
     go_wp2_with (go_at_call 173; (with_reducible refine (KR.out _).mono ?_); rintro _ w2 ⟨rfl, rfl⟩)
     go_ret
     exact ⟨(i : Int), rfl, by rw [hf.out]; exact decide_eq_true (by omega), hb2.out⟩
    ·have hlt : ¬ 0 ≤ v := by
      rw [← hv]
      have a : (43 : UInt8) ≠ x := fun e => hb (Or.inl e.symm)
      have b : (35 : UInt8) ≠ x := fun e => hb (Or.inr e.symm)
      have hc : pm.data.toList.contains x = false := by
       simp [Ne.symm a, Ne.symm b]
      rw [Lib.contains_iff_indexByte] at hc
      exact of_decide_eq_false hc
     have hf : Hid (plainOf ((sb s).drop (i + 1)) = plainOf (sb s)) := by
      unfold Hid
      rw [← hp.out, hd, plainOf]
      have a : (x == 43) = false := by rw [beq_eq_false_iff_ne]; exact fun e => hb (Or.inl e)
      have b : (x == 35) = false := by rw [beq_eq_false_iff_ne]; exact fun e => hb (Or.inr e)
      rw [a, b]
      rfl
     clear hb hv hback hd hx hp ha
     go_wp2_with (go_at_call 173; (with_reducible refine (KR.out _).mono ?_); rintro _ w2 ⟨rfl, rfl⟩)
     go_roundg (gk - 1)
     case measure => omega
     case rel => exact ⟨i + 1, by omega, by omega, hk2, hb2.out, hf⟩
   ·have hsp := decode_span s i hi (by omega)
    obtain ⟨d1, d2⟩ := decode_high s i hi (by omega)
    have d3 := decode_le s i
    have hnx := fun ty => Lib.run_next_any_at (P := Tryz.prog) wr w.heap.size s i ty hk.out hi
    have hf := plain_skip s i _ hsp
    obtain ⟨⟨r, n⟩, hrn⟩ : ∃ q, Utf8.decode s i = q := ⟨_, rfl⟩
    rw [hrn] at hsp d1 d2 d3 hnx hf
    dsimp only at hsp d1 d2 d3 hnx hf
    have hle : i + n ≤ s.size := by have := (hsp (n - 1) (by omega)).1; omega
    have KR := Lib.hid (fun w1 => runeHigh (r : Int) (by omega) (by omega) w1)
    have hf2 : Hid (plainOf ((sb s).drop (i + n)) = plainOf (sb s)) := hf.trans hp.out
    have hb2 := Lib.hid (Lib.below_iterAt hbel (Nat.le_refl _) s (i + n))
    have hk2 : Hid ((wr.iterAt w.heap.size s (i + n)).heap[w.heap.size]? = some (.stringIter s (i + n))) := Lib.iterAt_heap wr w.heap.size s i (i + n) hk.out
    have hlt : w.heap.size < (wr.iterAt w.heap.size s (i + n)).heap.size := (Array.getElem?_eq_some_iff.1 hk2.out).1
    clear hf hd hp hsp hrn ha
    go_wp2_with (go_at_call 173; (with_reducible refine (KR.out _).mono ?_); rintro _ w2 ⟨rfl, hb3⟩; have HB3 := Lib.hid hb3; clear hb3)
    go_roundg (gk - 1)
    case measure => omega
    case rel => exact ⟨i + n, by omega, by omega, (HB3.out.block _ hlt).trans hk2.out, hb2.out.trans (HB3.out.mono (Nat.le_of_lt hlt)), hf2⟩
  ·have hnx := Lib.run_next_end_at (P := Tryz.prog) wr w.heap.size s i
   have hnx2 := fun ty => hnx ty hk.out hi
   obtain rfl : i = s.size := by omega
   have hf : Hid (plainOf (sb s) = true) := by
    unfold Hid
    rw [← hp.out, List.drop_eq_nil_of_le (by rw [sb_length]; exact Nat.le_refl _)]
    rfl
   clear hp hnx
   go_wp2
   go_ret
   exact ⟨-1, rfl, by rw [hf.out]; rfl, hbel⟩
theorem anyW (s : ByteArray) (hs : s.size < 4294967281) (w : World) :
  Calls Tryz.prog 169 #[.string s, .string pm] w fun e w' => e = .returned (.bool (!plainOf (sb s))) ∧ Below w.heap.size w w' := by
 have K : Calls Tryz.prog 171 #[.string s, .string pm] w (AnyPm s w) := by
  rcases Nat.lt_or_ge 8 s.size with h | h
  ·exact anyLong s h hs w
  ·exact anyShort s h w
 unfold AnyPm at K
 generalize (!plainOf (sb s)) = v at *
 have HK := Lib.hid K
 clear K
 go_enter Tryz.func169, Tryz.ntmps169
 go_wp2_with fail
 (with_reducible refine HK.out.mono ?_)
 rintro _ w1 ⟨n, rfl, hn, hb⟩
 have HN := Lib.hid hn
 have HB := Lib.hid hb
 clear HK hn hb
 go_wp2
 go_ret
 exact ⟨by rw [← HN.out]; rfl, HB.out⟩
theorem refTextV (s : ByteArray) (hs : s.size ≤ 140737488351232) (l m : Int) (w : World) (hT : Wd w) :
  Calls Tryz.prog 71 #[.string s, .int .i64 l, .int .i64 m] w fun e w' => e = .returned (.bool (textOk s l m)) ∧ Below w.heap.size w w' :=
 refTextW s hs l m (vd s) w (validW s hs w hT)
theorem packTextV (s : ByteArray) (hs : s.size ≤ 140737488351232) (l m : Int) (w : World) (hT : Wd w) :
  Calls Tryz.prog 165 #[.string s, .int .i64 l, .int .i64 m] w fun e w' => e = .returned (.bool (textOk s l m)) ∧ Below w.heap.size w w' :=
 packTextW s hs l m (vd s) w (validW s hs w hT) (fun w1 _ => (zeroW s w1).mono fun _ _ ⟨h1, h2⟩ => ⟨h1, h2 ▸ Below.refl _ _⟩)
theorem textOk_size {s : ByteArray} {l m : Int} (h : textOk s l m = true) : l ≤ s.size ∧ (s.size : Int) ≤ m := by
 unfold textOk textB at h
 rw [Bool.and_eq_true] at h
 exact inRB_iff.1 h.1
theorem packTopicV (s : ByteArray) (hs : s.size ≤ 140737488351232) (w : World) (hT : Wd w) :
  Calls Tryz.prog 167 #[.string s] w fun e w' => e = .returned (.bool (topicOk s)) ∧ Below w.heap.size w w' := by
 have HT := Lib.hid (packTextV s hs 1 64 w hT)
 unfold topicOk
 cases hb : textOk s 1 64 with
 | false =>
  rw [hb] at HT
  go_enter Tryz.func167, Tryz.ntmps167
  go_wp2_with (go_at_call 165; (with_reducible refine HT.out.mono ?_); rintro _ w2 ⟨rfl, hb2⟩; have HB2 := Lib.hid hb2; clear hb2)
  go_ret
  exact ⟨rfl, HB2.out⟩
 | true =>
  have HA := Lib.hid (fun w1 => anyW s (by have := (textOk_size hb).2; omega) w1)
  rw [hb] at HT
  go_enter Tryz.func167, Tryz.ntmps167
  go_wp2_with (first
   | (go_at_call 165; (with_reducible refine HT.out.mono ?_); rintro _ w2 ⟨rfl, hb2⟩; have HB2 := Lib.hid hb2; clear hb2)
   | (go_at_call 169; (with_reducible refine (HA.out w2).mono ?_); rintro _ w3 ⟨rfl, hb3⟩; have HB3 := Lib.hid (HB2.out.trans (hb3.mono HB2.out.size)); clear hb3))
  go_ret
  exact ⟨by simp, HB3.out⟩
end
section
open Go.RowKit
abbrev Rd := List UInt8 × Bool
def takeP (s : Rd) (n : Nat) : List UInt8 × Rd :=
 if s.2 = false ∧ n ≤ s.1.length then (s.1.take n, (s.1.drop n, false)) else (List.replicate n 0, (s.1, true))
abbrev mkS (xs : List UInt8) : ByteArray := ⟨xs.toArray⟩
def oneP (s : Rd) : UInt8 × Rd := ((takeP s 1).1.headD 0, (takeP s 1).2)
def twoP (s : Rd) : Nat × Rd := ((oneP s).1.toNat * 256 + (oneP (oneP s).2).1.toNat, (oneP (oneP s).2).2)
def textP (s : Rd) : ByteArray × Rd := (mkS (takeP (twoP s).2 (twoP s).1).1, (takeP (twoP s).2 (twoP s).1).2)
def bitB (f : UInt8) (n : UInt8) : Bool := f &&& n != 0
structure Conn where
 f : UInt8
 k : Nat × Rd
 c : ByteArray × Rd
 t : ByteArray × Rd
 y : ByteArray × Rd
 u : ByteArray × Rd
 q : ByteArray × Rd
 s : Rd
def connOf (one : Rd → UInt8 × Rd) (two : Rd → Nat × Rd) (text : Rd → ByteArray × Rd) (s : Rd) : Conn :=
 let f := one s
 let k := two f.2
 let c := text k.2
 let t := text c.2
 let y := text t.2
 let s5 := if bitB f.1 4 then y.2 else c.2
 let u := text s5
 let s6 := if bitB f.1 128 then u.2 else s5
 let q := text s6
 let s7 := if bitB f.1 64 then q.2 else s6
 ⟨f.1, k, c, t, y, u, q, s7⟩
def Conn.mq (r : Conn) : Mq :=
 { mq0 1 with
  keep := r.k.1, client := r.c.1, clean := bitB r.f 2, hp := bitB r.f 64, hu := bitB r.f 128, won := bitB r.f 4,
  wt := (if bitB r.f 4 then r.t.1 else nos), wp := (if bitB r.f 4 then r.y.1 else nos), wq := (if bitB r.f 4 then ((r.f >>> 3 &&& 3).toNat : Int) else 0), wr := (bitB r.f 4 && bitB r.f 32),
  user := (if bitB r.f 128 then r.u.1 else nos), pass := (if bitB r.f 64 then r.q.1 else nos) }
def connP (s : Rd) : Conn := connOf oneP twoP textP (takeP s 7).2
def pubMq (f : UInt8) (t : ByteArray) (i : Nat) (p : ByteArray) : Mq :=
 { mq0 3 with dup := bitB f 8, qos := ((f >>> 1 &&& 3).toNat : Int), retain := bitB f 1, topic := t, id := (if f >>> 1 &&& 3 != 0 then (i : Int) else 0), payload := p }
def pubP (f : UInt8) (s : Rd) : Mq × Rd :=
 let t := textP s
 let i := twoP t.2
 let s2 := if f >>> 1 &&& 3 != 0 then i.2 else t.2
 let p := takeP s2 s2.1.length
 (pubMq f t.1 i.1 (mkS p.1), p.2)
def loopP (k : Int) : Nat → Mq → Rd → Mq × Rd
 | 0, m, s => (m, s)
 | f + 1, m, s =>
  if s.2 = false ∧ 0 < s.1.length then
   if k = 8 then loopP k f { m with wishes := m.wishes ++ [((textP s).1, ((oneP (textP s).2).1.toNat : Int))] } (oneP (textP s).2).2
   else if k = 9 then loopP k f { m with codes := m.codes ++ [((oneP s).1.toNat : Int)] } (oneP s).2
   else loopP k f { m with filters := m.filters ++ [(textP s).1] } (textP s).2
  else (m, s)
def listKind (k : Int) : Bool := k == 8 || (k == 9 || k == 10)
def readP (k : Int) (f : UInt8) (s : Rd) : Mq × Rd :=
 if k = 1 then ((connP s).mq, (connP s).s)
 else if k = 2 then ({ mq0 k with present := (oneP s).1 == 1, code := ((oneP (oneP s).2).1.toNat : Int) }, (oneP (oneP s).2).2)
 else if k = 3 then pubP f s
 else if listKind k then loopP k ((twoP s).2.1.length + 1) { mq0 k with id := ((twoP s).1 : Int) } (twoP s).2
 else if idKind k then ({ mq0 k with id := ((twoP s).1 : Int) }, (twoP s).2)
 else (mq0 k, s)
theorem takeP_app (a b : List UInt8) (n : Nat) (h : a.length = n) : takeP (a ++ b, false) n = (a, (b, false)) := by
 subst h; unfold takeP; rw [if_pos ⟨rfl, by simp⟩]; simp
theorem oneP_cons (x : UInt8) (b : List UInt8) : oneP (x :: b, false) = (x, (b, false)) := by
 unfold oneP; rw [show x :: b = [x] ++ b from rfl, takeP_app [x] b 1 rfl]; rfl
theorem big2 (n : Nat) : big 2 n = [UInt8.ofNat (n / 256), UInt8.ofNat n] := by simp [big]
theorem twoP_big (n : Nat) (h : n < 65536) (b : List UInt8) : twoP (big 2 n ++ b, false) = (n, (b, false)) := by
 unfold twoP
 rw [big2]
 simp only [List.cons_append, List.nil_append, oneP_cons, UInt8.toNat_ofNat']
 congr 1
 omega
theorem mkS_sb (s : ByteArray) : mkS (sb s) = s := by
 cases s; simp [mkS, sb]
theorem textP_str (s : ByteArray) (h : s.size < 65536) (b : List UInt8) : textP (strB s ++ b, false) = (s, (b, false)) := by
 unfold textP strB
 rw [List.append_assoc, twoP_big _ h]
 simp only []
 rw [takeP_app _ _ s.size (sb_length s)]
end
section
open Go.RowKit
def RdAt (w : World) (B g : Nat) (s : Rd) : Prop :=
 ∃ A c, s.1.length ≤ c ∧ w.cell? ⟨g, 0, none⟩ = some (.slice A s.1.length c) ∧ w.cell? ⟨g, 1, none⟩ = some (.bool s.2) ∧
  w.frozen? ⟨g, 0, none⟩ = false ∧ w.frozen? ⟨g, 1, none⟩ = false ∧ RB w B A s.1 ∧ B ≤ g ∧ g < w.heap.size
theorem RdAt.of {w : World} {B g : Nat} {A : Option Addr} {xs : List UInt8} {bad : Bool} {n c : Nat} (hl : xs.length = n) (hc : n ≤ c) (c0 : w.cell? ⟨g, 0, none⟩ = some (.slice A n c)) (c1 : w.cell? ⟨g, 1, none⟩ = some (.bool bad))
  (f0 : w.frozen? ⟨g, 0, none⟩ = false) (f1 : w.frozen? ⟨g, 1, none⟩ = false) (hr : RB w B A xs) (hB : B ≤ g) (hg : g < w.heap.size) : RdAt w B g (xs, bad) := by
 subst hl; exact ⟨A, c, hc, c0, c1, f0, f1, hr, hB, hg⟩
theorem RdAt.kept {w w' : World} {B g : Nat} {s : Rd} {row : Option Nat} (h : RdAt w B g s) (hg : w.grownBy w' row) (hB : ∀ k, row = some k → B ≤ k) (hne : some g ≠ row) : RdAt w' B g s := by
 obtain ⟨A, c, hc, c0, c1, f0, f1, hr, hBg, hlt⟩ := h
 have hk : ∀ p : Addr, p.block < w.heap.size → some p.block ≠ row → w'.cell? p = w.cell? p := fun p hp hn => World.cell?_of_block (hg.block _ hp hn)
 have hf : ∀ p : Addr, p.block < w.heap.size → some p.block ≠ row → w'.frozen? p = w.frozen? p := fun p hp hn => World.frozen?_of_block (hg.block _ hp hn)
 refine ⟨A, c, hc, (hk ⟨g, 0, none⟩ hlt hne).trans c0, (hk ⟨g, 1, none⟩ hlt hne).trans c1, (hf ⟨g, 0, none⟩ hlt hne).trans f0, (hf ⟨g, 1, none⟩ hlt hne).trans f1, ?_, hBg, Nat.lt_of_lt_of_le hlt hg.size⟩
 refine hr.keep fun p hp => hk p (by omega) (fun e => ?_)
 have := hB _ e.symm
 omega
theorem zeros_bv (n : Nat) : (madeCells (Value.cells (.int .u8 0)) (n * 1)).toList = (List.replicate n (0 : UInt8)).map bv := by
 rw [Nat.mul_one]
 apply List.ext_getElem?
 intro j
 rcases Nat.lt_or_ge j n with h | h
 ·simp [madeCells, Value.cells, h, Nat.mod_one]
 ·simp [madeCells, Value.cells, h]
theorem wpList_make_bytes {P : Program} {w : World} {ops : Array Oper} {rest : List Oper} {o : Oper} {a : Act} {Q : Exit → Act → World → Prop}
  (hg : o.guard = none) (l c : Operand) (t e : TypeId) (hop : o.op = Op.makeSlice t l c) (ht : P.underlying t = some (.slice e)) (hi : (P.info? e).map (fun i => (i.zero, i.size, i.bytes)) = some (some (.int .u8 0), 1, 1))
  (n : Nat) (hl : a.eval l = .int .i64 (n : Int)) (hc : a.eval c = .int .i64 (n : Int)) (hn : n ≤ 1000000)
  (hK : ∀ w', RB w' w'.heap.size (some ⟨w.heap.size, 0, none⟩) (List.replicate n 0) → w.grownBy w' none → wpList P ops Q rest (a.put o.dst (.slice (some ⟨w.heap.size, 0, none⟩) n n)) w') :
  wpList P ops Q (o :: rest) a w := by
 obtain ⟨i0, hi0, hz0, hz1, hz2⟩ := info_parts hi
 refine wpList_make_full w hg l c t hop w.heap.size e i0 (.int .u8 0) 1 ht hi0 hz0 hz1 .i64 .i64 (n : Int) (n : Int) n hl hc rfl rfl (by rw [hz2]; omega) (by unfold maxLen; omega) (Nat.le_refl _) ?_
 intro w' ho hgr
 rw [zeros_bv] at ho
 exact hK w' (RB.of_ownN ho) hgr
theorem takeP_bad (s : Rd) (n : Nat) (h : ¬ (s.2 = false ∧ n ≤ s.1.length)) : takeP s n = (List.replicate n 0, (s.1, true)) := by unfold takeP; rw [if_neg h]
theorem takeP_ok (s : Rd) (n : Nat) (h : s.2 = false ∧ n ≤ s.1.length) : takeP s n = (s.1.take n, (s.1.drop n, false)) := by unfold takeP; rw [if_pos h]
def Took (w : World) (B g n : Nat) (r : List UInt8 × Rd) (e : Ending) (w' : World) : Prop :=
 ∃ A' c', e = .returned (.slice A' n c') ∧ n ≤ c' ∧ r.1.length = n ∧ RB w' w'.heap.size A' r.1 ∧ RdAt w' B g r.2 ∧ w.grownBy w' (some g)
theorem took_bad {w w1 w' : World} {B g n c H : Nat} (_hH : w1.heap.size = H) {A : Option Addr} {xs : List UInt8} (hc : xs.length ≤ c) (c0 : w1.cell? ⟨g, 0, none⟩ = some (.slice A xs.length c)) (c1 : w1.cell? ⟨g, 1, none⟩ = some (.bool true))
  (f0 : w1.frozen? ⟨g, 0, none⟩ = false) (f1 : w1.frozen? ⟨g, 1, none⟩ = false) (hr : RB w1 B A xs) (hB : B ≤ g) (hg : g < w1.heap.size) (h1 : w.grownBy w1 (some g))
  (hr2 : RB w' w'.heap.size (some ⟨H, 0, none⟩) (List.replicate n 0)) (h2 : w1.grownBy w' none) :
  Took w B g n (List.replicate n 0, (xs, true)) (.returned (.slice (some ⟨H, 0, none⟩) n n)) w' := by
 refine ⟨_, _, rfl, Nat.le_refl _, by simp, hr2, ?_, h1.trans (grown_row h2 _)⟩
 have : RdAt w1 B g (xs, true) := RdAt.of rfl hc c0 c1 f0 f1 hr hB hg
 exact this.kept h2 (by simp) (by simp)
theorem took_ok {w : World} {B g n c : Nat} {A : Option Addr} {xs : List UInt8} (hc : xs.length ≤ c) (hle : n ≤ xs.length) (c0 : w.cell? ⟨g, 0, none⟩ = some (.slice A xs.length c)) (c1 : w.cell? ⟨g, 1, none⟩ = some (.bool false))
  (f0 : w.frozen? ⟨g, 0, none⟩ = false) (f1 : w.frozen? ⟨g, 1, none⟩ = false) (hr : RB w B A xs) (hB : B ≤ g) (hg : g < w.heap.size) :
  Took w B g n (xs.take n, (xs.drop n, false)) (.returned (.slice A n c)) ((w.setCell ⟨g, 0, none⟩ (.slice (if c = n then A else A.map (·.add n)) (xs.length - n) (c - n))).drew) := by
 have hO := (Only.refl g w).set 0 (.slice (if c = n then A else A.map (·.add n)) (xs.length - n) (c - n))
 refine ⟨_, _, rfl, by omega, by simp; omega, ?_, ?_, ?_⟩
 ·exact ((hr.take n).only hO hB).more (by show B ≤ (w.setCell _ _).heap.size; rw [size_setCell']; omega)
 ·refine RdAt.of (w := (w.setCell ⟨g, 0, none⟩ _).drew) (A := (if c = n then A else A.map (·.add n))) (n := xs.length - n) (c := c - n) (by simp) (by omega) ?_ ?_ ?_ ?_ ?_ hB ?_
  ·exact World.cell?_setCell_same _ _ _ c0
  ·show (w.setCell _ _).cell? _ = _
   rw [World.cell?_setCell_other _ _ _ _ (by simp)]; exact c1
  ·show (w.setCell _ _).frozen? _ = _
   simpa using f0
  ·show (w.setCell _ _).frozen? _ = _
   simpa using f1
  ·exact (hr.cut hle hc).only hO.drew hB
  ·show g < (w.setCell _ _).heap.size
   rw [size_setCell']; exact hg
 ·have := grown_setCell w g 0 (.slice (if c = n then A else A.map (·.add n)) (xs.length - n) (c - n))
  exact ⟨this.os, this.tape, this.output, this.size, this.block⟩
theorem packTake (B g : Nat) (s : Rd) (n : Nat) (nI : Int) (hn : nI = (n : Int)) (hn' : n ≤ 1000000) (w : World) (h : RdAt w B g s) :
    Calls Tryz.prog 143 #[.pointer (some ⟨g, 0, none⟩), .int .i64 nI] w (Took w B g n (takeP s n)) := by
  subst hn
  obtain ⟨xs, bad⟩ := s
  obtain ⟨A, c, hc, c0, c1, f0, f1, hr, hB, hg⟩ := h
  dsimp only at hc c0 c1 hr
  by_cases hok : bad = false ∧ n ≤ xs.length
  · rw [takeP_ok _ _ hok]
    obtain ⟨rfl, hle⟩ := hok
    have hnI : (n : Int) ≤ (xs.length : Int) := by omega
    have hnc : (n : Int) ≤ (c : Int) := by omega
    have hnI' : n ≤ c := by omega
    have hn0 : (0 : Int) ≤ (n : Int) := by omega
    have HT := Lib.hid (took_ok hc hle c0 c1 f0 f1 hr hB hg)
    clear hr
    by_cases hcn : c = n
    · subst hcn
      rw [if_pos rfl, show xs.length - c = 0 by omega, Nat.sub_self] at HT
      go_enter Tryz.func143, Tryz.ntmps143
      go_wp2
      refine wp_scope_fwd 0 rfl ?_
      go_wp2
      go_region
      all_goals
        go_wp2
        simp only [Exit.jump]
        go_ret
        exact HT.out
    · rw [if_neg hcn] at HT
      go_enter Tryz.func143, Tryz.ntmps143
      go_wp2
      refine wp_scope_fwd 0 rfl ?_
      go_wp2
      go_region
      all_goals
        go_wp2
        simp only [Exit.jump]
        go_ret
        exact HT.out
  · rw [takeP_bad _ _ hok]
    have c1' : (w.setCell ⟨g, 1, none⟩ (.bool true)).cell? ⟨g, 1, none⟩ = some (.bool true) := World.cell?_setCell_same _ _ _ c1
    have HT : ∀ w', RB w' w'.heap.size (some ⟨w.heap.size, 0, none⟩) (List.replicate n 0) → (w.setCell ⟨g, 1, none⟩ (.bool true)).grownBy w' none → Took w B g n (List.replicate n 0, (xs, true)) (.returned (.slice (some ⟨w.heap.size, 0, none⟩) n n)) w' := by
      intro w' h1 h2
      refine took_bad (A := A) (by simp [World.setCell]) hc ?_ c1' ?_ ?_ ?_ hB ?_ (grown_setCell w g 1 _) h1 h2
      · rw [World.cell?_setCell_other _ _ _ _ (by simp)]; exact c0
      · simpa using f0
      · simpa using f1
      · exact hr.only ((Only.refl g w).set 1 _) hB
      · simpa [World.setCell] using hg
    have HT' := Lib.hid HT
    clear HT c1' hr
    have hh : bad = true ∨ (bad = false ∧ (xs.length : Int) < (n : Int)) := by
      cases bad
      · exact Or.inr ⟨rfl, by have : ¬ n ≤ xs.length := fun h => hok ⟨rfl, h⟩
                              omega⟩
      · exact Or.inl rfl
    clear hok
    rcases hh with rfl | ⟨rfl, hlt⟩
    all_goals
      go_enter Tryz.func143, Tryz.ntmps143
      go_wp2
      refine wp_scope_fwd 0 rfl ?_
      go_wp2
      go_step3
      refine ⟨rfl, ?_⟩
      go_wp2_with (apply wpList_make_bytes rfl _ _ 31 5 rfl Tryz.underlying31 info_u8 n ?_ ?_ hn' ?_; exact rfl; exact rfl; intro w2 hr2 hg2)
      simp only [Exit.jump]
      go_ret
      rw [size_setCell'] at hr2
      exact HT'.out w2 hr2 hg2
end
section
open Go.RowKit
def Rdd (w : World) (B g : Nat) (v : Value) (s : Rd) (e : Ending) (w' : World) : Prop := e = .returned v ∧ RdAt w' B g s ∧ w.grownBy w' (some g)
theorem headD_of {xs : List UInt8} {x : UInt8} (h : xs[0]? = some x) : xs.headD 0 = x := by
 cases xs with
 | nil => cases h
 | cons y ys => simpa using h
theorem packOne (B g : Nat) (s : Rd) (w : World) (h : RdAt w B g s) :
  Calls Tryz.prog 140 #[.pointer (some ⟨g, 0, none⟩)] w (Rdd w B g (.int .i64 ((oneP s).1.toNat : Int)) (oneP s).2) := by
 have K := Lib.hid (packTake B g s 1 1 rfl (by omega) w h)
 clear h
 unfold oneP
 generalize takeP s 1 = r at *
 obtain ⟨V, hV⟩ : ∃ V, r.1.headD 0 = V := ⟨_, rfl⟩
 rw [hV]
 have HV := Lib.hid hV
 clear hV
 go_enter Tryz.func140, Tryz.ntmps140
 go_wp2_with fail
 (with_reducible refine K.out.mono ?_)
 rintro _ w1 ⟨A, c, rfl, hc, hl, hr, hR, hg⟩
 obtain ⟨b, o, x, rfl, _, hx, cx⟩ := hr.get (k := 0) (by omega)
 rw [Nat.add_zero] at cx
 obtain rfl : x = V := (headD_of hx).symm.trans HV.out
 have hub : (x.toNat : Int) < 256 := by have := x.toNat_lt; omega
 have HR := Lib.hid hR
 clear hl hr hx hR K HV
 go_wp2
 go_ret
 exact ⟨rfl, HR.out, hg⟩
theorem packTwoR (B g : Nat) (s : Rd) (w : World) (h : RdAt w B g s) :
  Calls Tryz.prog 142 #[.pointer (some ⟨g, 0, none⟩)] w (Rdd w B g (.int .i64 ((twoP s).1 : Int)) (twoP s).2) := by
 have K := Lib.hid (packOne B g s w h)
 clear h
 have HO := Lib.hid (or_shl (oneP s).1.toNat (oneP (oneP s).2).1 (by have := (oneP s).1.toNat_lt; omega))
 have K2 := Lib.hid (fun w1 h1 => packOne B g (oneP s).2 w1 h1)
 have e2 : twoP s = ((oneP s).1.toNat * 256 + (oneP (oneP s).2).1.toNat, (oneP (oneP s).2).2) := rfl
 rw [e2]
 clear e2
 have h1 := (oneP s).1.toNat_lt
 have h2 := (oneP (oneP s).2).1.toNat_lt
 generalize (oneP s).2 = s1 at *
 generalize (oneP s).1.toNat = x1 at *
 generalize hx2 : (oneP s1).1 = x2 at *
 generalize (oneP s1).2 = s2 at *
 clear hx2
 have i1 : (x1 : Int) ≤ 255 := by omega
 go_enter Tryz.func142, Tryz.ntmps142
 go_wp2_with fail
 (with_reducible refine K.out.mono ?_)
 rintro _ w1 ⟨rfl, hR, hg⟩
 go_wp2_with fail
 (with_reducible refine (K2.out w1 hR).mono ?_)
 rintro _ w2 ⟨rfl, hR2, hg2⟩
 clear K K2 hR
 go_wp2
 go_ret
 exact ⟨by rw [HO.out]; rfl, hR2, hg.trans hg2⟩
theorem RB.bytes_of {w : World} {B : Nat} {ad : Addr} {xs : List UInt8} (h : RB w B (some ad) xs) : ∀ j (hj : j < xs.length), w.cell? (ad.add j) = some (.int .u8 (xs[j].toNat : Int)) := by
 intro j hj
 obtain ⟨ad', x, e, _, hx, hc⟩ := h.at_ hj
 injection e with e
 subst e
 rw [hc, List.getElem?_eq_getElem hj] at *
 injection hx with hx
 rw [hx]
theorem run_string_of {P : Program} {w : World} {src dst e : TypeId} (hs : P.underlying src = some (.slice e)) (he : P.underlying e = some (.int .u8)) (hd : P.underlying dst = some .string) {B : Nat} {A : Option Addr} {xs : List UInt8} (h : RB w B A xs) {n : Nat} (hn : xs.length = n) (c : Nat) :
  (convert src dst (.slice A n c)).run P w = .ok (.string (mkS xs)) w := by
 subst hn
 cases A with
 | none =>
  have h0 : xs = [] := by
   rcases Nat.eq_zero_or_pos xs.length with h0 | h0
   ·exact List.eq_nil_of_length_eq_zero h0
   ·obtain ⟨_, e, _⟩ := h.2 h0; cases e
  subst h0
  exact Lib.run_convert_nil_bytes w src dst e c hs he hd
 | some ad => exact run_convert_bytes_back w src dst e ad c xs hs he hd h.bytes_of
theorem twoP_lt (s : Rd) : (twoP s).1 < 65536 := by
 have h1 := (oneP s).1.toNat_lt
 have h2 := (oneP (oneP s).2).1.toNat_lt
 show (oneP s).1.toNat * 256 + (oneP (oneP s).2).1.toNat < 65536
 omega
theorem packTextR (B g : Nat) (s : Rd) (w : World) (h : RdAt w B g s) :
  Calls Tryz.prog 141 #[.pointer (some ⟨g, 0, none⟩)] w (Rdd w B g (.string (textP s).1) (textP s).2) := by
 have K := Lib.hid (packTwoR B g s w h)
 clear h
 have K2 := Lib.hid (fun w1 h1 => packTake B g (twoP s).2 (twoP s).1 ((twoP s).1 : Int) rfl (by have := twoP_lt s; omega) w1 h1)
 unfold textP
 generalize twoP s = t at *
 obtain ⟨n, s1⟩ := t
 generalize takeP s1 n = r at *
 obtain ⟨ys, s2⟩ := r
 go_enter Tryz.func141, Tryz.ntmps141
 go_wp2_with fail
 (with_reducible refine K.out.mono ?_)
 rintro _ w1 ⟨rfl, hR, hg⟩
 go_wp2_with fail
 (with_reducible refine (K2.out w1 hR).mono ?_)
 rintro _ w2 ⟨A, c, rfl, hc, hl, hr, hR2, hg2⟩
 have hrun := run_string_of (P := Tryz.prog) (src := 31) (dst := 9) (e := 5) Tryz.underlying31 Tryz.underlying5 Tryz.underlying9 hr hl c
 clear K K2 hR hr hl
 go_wp2
 go_ret
 exact ⟨rfl, hR2, hg.trans hg2⟩
theorem packMore (B g : Nat) (s : Rd) (w : World) (h : RdAt w B g s) :
  Calls Tryz.prog 164 #[.pointer (some ⟨g, 0, none⟩)] w fun e w' => e = .returned (.bool (!s.2 && decide (0 < s.1.length))) ∧ w = w' := by
 obtain ⟨xs, bad⟩ := s
 obtain ⟨A, c, hc, c0, c1, f0, f1, hr, hB, hg⟩ := h
 dsimp only at hc c0 c1 hr
 clear hr f0 f1
 cases bad with
 | true =>
  go_enter Tryz.func164, Tryz.ntmps164
  go_wp2
  go_ret
  exact ⟨rfl, rfl⟩
 | false =>
  by_cases h0 : 0 < xs.length
  ·have e1 : (0 : Int) < (xs.length : Int) := by omega
   have HD := Lib.hid (decide_eq_true h0)
   clear h0
   go_enter Tryz.func164, Tryz.ntmps164
   go_wp2
   go_ret
   exact ⟨by rw [HD.out]; rfl, rfl⟩
  ·have e1 : ¬ (0 : Int) < (xs.length : Int) := by omega
   have HD := Lib.hid (decide_eq_false h0)
   clear h0
   go_enter Tryz.func164, Tryz.ntmps164
   go_wp2
   go_ret
   exact ⟨by rw [HD.out]; rfl, rfl⟩
end
end Go.Proofs.YtlacidnnankjlaaGreatDoor
