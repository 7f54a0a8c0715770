/-
  Words for memory, without a program: a slice value that reads as a list of cells; what is kept of it over new blocks, draws and stores elsewhere.
-/
import Derived.WalkKit
import Derived.WalkSpells
import Derived.WalkLawsBesides
import Derived.Deep.AppendLies
import Derived.Deep.Draws
import Derived.Lib.Hide
import Derived.DataReads
namespace Go.Proofs.Ytjdokaiadljeeaa
open Go.RowKit

theorem block_of_add (a : Addr) (n : Nat) : (a.add n).block = a.block := by unfold Addr.add; split <;> rfl
theorem add_of_add (a : Addr) (i j : Nat) : (a.add i).add j = a.add (i + j) := by
  unfold Addr.add
  by_cases hi : i = 0 <;> by_cases hj : j = 0 <;> simp [hi, hj, Nat.add_assoc]

/-- the slice value '.slice A n c' reads as the cells xs ('size' cells an element), in blocks below B. -/
def Reads (w : World) (B size : Nat) (A : Option Addr) (n : Nat) (xs : List Value) : Prop :=
  xs.length = n * size ∧ (0 < n → ∃ ad, A = some ad ∧ ad.block < B ∧ ∀ j u, xs[j]? = some u → w.cell? (ad.add j) = some u)

section
variable {w w' : World} {B B' size n : Nat} {A : Option Addr} {xs : List Value}
theorem Reads.none_ : Reads w B size A 0 [] := ⟨by simp, fun h => absurd h (by omega)⟩
theorem Reads.at_ {k : Nat} (h : Reads w B 1 A n xs) (hk : k < n) : ∃ ad u, A = some ad ∧ ad.block < B ∧ xs[k]? = some u ∧ w.cell? (ad.add k) = some u := by
  obtain ⟨ad, e, hb, hc⟩ := h.2 (by omega)
  have hl : k < xs.length := by have := h.1; omega
  exact ⟨ad, xs[k], e, hb, List.getElem?_eq_getElem hl, hc k _ (List.getElem?_eq_getElem hl)⟩
theorem Reads.keep (h : Reads w B size A n xs) (hk : ∀ p : Addr, p.block < B → w'.cell? p = w.cell? p) : Reads w' B size A n xs :=
  ⟨h.1, fun hn => by
    obtain ⟨ad, e, hb, hc⟩ := h.2 hn
    exact ⟨ad, e, hb, fun j u hu => (hk _ (by rw [block_of_add]; exact hb)).trans (hc j u hu)⟩⟩
theorem Reads.more (h : Reads w B size A n xs) (hB : B ≤ B') : Reads w B' size A n xs :=
  ⟨h.1, fun hn => by
    obtain ⟨ad, e, hb, hc⟩ := h.2 hn
    exact ⟨ad, e, by omega, hc⟩⟩
theorem Reads.below (h : Reads w B size A n xs) (hb : Below B w w') : Reads w' B size A n xs := h.keep fun _ hp => hb.cell hp
theorem Reads.drewN (h : Reads w B size A n xs) (k : Nat) : Reads (w.drewN k) B size A n xs := h
theorem Reads.cut (h : Reads w B size A n xs) {k cap : Nat} (hk : k ≤ n) (hc : n ≤ cap) :
    Reads w B size (if cap = k then A else A.map (·.add (k * size))) (n - k) (xs.drop (k * size)) := by
  refine ⟨by rw [List.length_drop, h.1, Nat.sub_mul], fun hn => ?_⟩
  obtain ⟨ad, rfl, hb, hcell⟩ := h.2 (by omega)
  rw [if_neg (by omega)]
  refine ⟨ad.add (k * size), rfl, by rw [block_of_add]; exact hb, fun j u hu => ?_⟩
  rw [add_of_add]
  exact hcell _ u (by rw [← hu, List.getElem?_drop])
theorem Reads.of_own {base : Nat} {e : TypeId} {c : Nat} (h : w.ownsRow base e size (.slice A n c) n xs) : Reads w w.heap.size size A n xs := by
  refine ⟨h.1, fun hn => ?_⟩
  obtain ⟨g, cap, hv, _, hlt⟩ := h.form hn
  have hA : A = some ⟨g, 0, none⟩ := by injection hv
  subst hA
  exact ⟨_, rfl, hlt, h.cells (g := g) rfl⟩
end

/-- a byte's cell -/
abbrev bv (x : UInt8) : Value := .int .u8 (x.toNat : Int)

/-- the slice value '.slice A xs.length c' reads as the bytes xs, in blocks below B -/
def RB (w : World) (B : Nat) (A : Option Addr) (xs : List UInt8) : Prop := Reads w B 1 A xs.length (xs.map bv)

section
variable {w w' : World} {B B' : Nat} {A : Option Addr} {xs : List UInt8}
theorem RB.at_ {k : Nat} (h : RB w B A xs) (hk : k < xs.length) : ∃ ad x, A = some ad ∧ ad.block < B ∧ xs[k]? = some x ∧ w.cell? (ad.add k) = some (.int .u8 (x.toNat : Int)) := by
  obtain ⟨ad, u, hA, hb, hu, hc⟩ := Reads.at_ h hk
  refine ⟨ad, xs[k], hA, hb, List.getElem?_eq_getElem hk, ?_⟩
  rw [List.getElem?_map, List.getElem?_eq_getElem hk] at hu
  simp only [Option.map_some, Option.some.injEq] at hu
  rw [hc, ← hu]
/-- the same, with the address written out. -/
theorem RB.get {k : Nat} (h : RB w B A xs) (hk : k < xs.length) : ∃ b o x, A = some ⟨b, o, none⟩ ∧ b < B ∧ xs[k]? = some x ∧ w.cell? ⟨b, o + k, none⟩ = some (.int .u8 (x.toNat : Int)) := by
  obtain ⟨ad, x, hA, hb, hx, hc⟩ := h.at_ hk
  obtain ⟨ad0, x0, hA0, _, _, hc0⟩ := h.at_ (k := 0) (by omega)
  rw [hA] at hA0
  injection hA0 with hA0
  subst hA0
  obtain ⟨b, o, spot⟩ := ad
  have hspot : spot = none := by
    have := World.cell?_spot hc0
    simpa [Addr.add] using this
  subst hspot
  refine ⟨b, o, x, hA, hb, hx, ?_⟩
  rw [← hc]
  congr 1
  unfold Addr.add
  by_cases h1 : k = 0
  · rw [if_pos h1, h1]; simp
  · rw [if_neg h1]
theorem RB.same_at {b o b' o' : Nat} (h : A = some ⟨b, o, none⟩) (h' : A = some ⟨b', o', none⟩) : b' = b ∧ o' = o := by
  rw [h] at h'
  injection h' with h'
  injection h' with h1 h2
  exact ⟨h1.symm, h2.symm⟩
theorem RB.keep (h : RB w B A xs) (hk : ∀ p : Addr, p.block < B → w'.cell? p = w.cell? p) : RB w' B A xs := Reads.keep h hk
theorem RB.more (h : RB w B A xs) (hB : B ≤ B') : RB w B' A xs := Reads.more h hB
theorem RB.below (h : RB w B A xs) (hb : Below B w w') : RB w' B A xs := Reads.below h hb
theorem RB.drewN (h : RB w B A xs) (k : Nat) : RB (w.drewN k) B A xs := h
theorem RB.nil : RB w B A [] := ⟨by simp, fun h => by simp at h⟩
/-- what is read below the heap's size is read behind a step that leaves old memory alone, wherever the bound lies. -/
theorem RB.next (h : RB w w.heap.size A xs) (hb : Below w.heap.size w w') : RB w' w'.heap.size A xs := (h.below hb).more hb.size
theorem RB.of_own {base : Nat} {e : TypeId} {c : Nat} (h : w.ownsRow base e 1 (.slice A xs.length c) xs.length (xs.map bv)) : RB w w.heap.size A xs := Reads.of_own h
end

/-- a block that was just laid, read whole (a literal). -/
theorem RB.lit (w : World) (e : TypeId) (C : Array Value) (fr : Nat × Nat) (xs : List UInt8) (h : C.toList = xs.map bv) : RB (w.alloc (.cells C e fr)) (w.alloc (.cells C e fr)).heap.size (some ⟨w.heap.size, 0, none⟩) xs := by
  refine ⟨by simp, fun _ => ⟨_, rfl, by simp, fun j u hu => ?_⟩⟩
  rw [← h] at hu
  have h1 : (w.alloc (.cells C e fr)).heap[w.heap.size]? = some (.cells C e fr) := by
    show (w.heap.push (.cells C e fr))[w.heap.size]? = _
    simp
  have h2 : ((⟨w.heap.size, 0, none⟩ : Addr).add j) = ⟨w.heap.size, j, none⟩ := by
    unfold Addr.add
    by_cases hj : j = 0 <;> simp [hj]
  rw [h2]
  unfold World.cell?
  simp only [h1]
  simpa using hu
theorem RB.litn (w : World) (g : Nat) (hg : w.heap.size = g) (e : TypeId) (C : Array Value) (fr : Nat × Nat) (xs : List UInt8) (h : C.toList = xs.map bv) : RB (w.alloc (.cells C e fr)) (w.alloc (.cells C e fr)).heap.size (some ⟨g, 0, none⟩) xs := by
  subst hg
  exact RB.lit w e C fr xs h
theorem RB.take {w : World} {B : Nat} {A : Option Addr} {xs : List UInt8} (h : RB w B A xs) (j : Nat) : RB w B A (xs.take j) := by
  refine ⟨by simp, fun hn => ?_⟩
  rw [List.length_take] at hn
  obtain ⟨ad, hA, hb, hc⟩ := h.2 (by omega)
  refine ⟨ad, hA, hb, fun i u hu => hc i u ?_⟩
  rw [List.map_take] at hu
  rw [List.getElem?_take] at hu
  split at hu
  · exact hu
  · cases hu
theorem RB.cut {w : World} {B : Nat} {A : Option Addr} {xs : List UInt8} (h : RB w B A xs) {k cap : Nat} (hk : k ≤ xs.length) (hc : xs.length ≤ cap) : RB w B (if cap = k then A else A.map (·.add k)) (xs.drop k) := by
  have := Reads.cut (cap := cap) h hk hc
  simp only [Nat.mul_one] at this
  unfold RB
  rw [List.length_drop, List.map_drop]
  exact this
theorem RB.cutlt {w : World} {B : Nat} {A : Option Addr} {xs : List UInt8} (h : RB w B A xs) {k : Nat} (hk : k < xs.length) : RB w B (A.map (·.add k)) (xs.drop k) := by
  have := h.cut (k := k) (cap := xs.length) (by omega) (Nat.le_refl _)
  rwa [if_neg (by omega)] at this
theorem RB.cut_at {w : World} {B g o : Nat} {xs : List UInt8} (h : RB w B (some ⟨g, o, none⟩) xs) {k : Nat} (hk : k < xs.length) : RB w B (some ⟨g, o + k, none⟩) (xs.drop k) := by
  have := h.cutlt hk
  have e : ((some ⟨g, o, none⟩ : Option Addr).map (·.add k)) = some ⟨g, o + k, none⟩ := by
    simp only [Option.map_some, Option.some.injEq]
    unfold Addr.add
    by_cases h0 : k = 0
    · rw [if_pos h0, h0]; simp
    · rw [if_neg h0]
  rwa [e] at this
theorem below_drewN {B : Nat} {a w : World} (h : Below B a w) (n : Nat) : Below B a (w.drewN n) := ⟨h.os, h.tape, h.output, h.size, h.block⟩
theorem below_of_drewN {w w' : World} (h : ∃ n, w' = w.drewN n) : Below w.heap.size w w' := by
  obtain ⟨n, rfl⟩ := h
  exact below_drewN (Below.refl _ _) n
theorem bcell {W w1 : World} (hb : Below W.heap.size W w1) : (∀ b o, b < W.heap.size → w1.cell? ⟨b, o, none⟩ = W.cell? ⟨b, o, none⟩) ∧ (∀ b o, b < W.heap.size → w1.frozen? ⟨b, o, none⟩ = W.frozen? ⟨b, o, none⟩) :=
  ⟨fun b o h => hb.cell (p := ⟨b, o, none⟩) h, fun b o h => hb.frozen (p := ⟨b, o, none⟩) h⟩

section
variable {w w' : World} {base : Nat} {e : TypeId} {size : Nat} {v : Value} {n : Nat} {xs : List Value}
theorem own_base {base' : Nat} (h : w.ownsRow base e size v n xs) (hb : base' ≤ base) : w.ownsRow base' e size v n xs := by
  obtain ⟨h1, h2⟩ := h
  refine ⟨h1, ?_⟩
  rcases h2 with h2 | ⟨g, cap, cur, hv, hg, r⟩
  · exact Or.inl h2
  · exact Or.inr ⟨g, cap, cur, hv, by omega, r⟩
theorem own_below (h : w.ownsRow base e size v n xs) (hb : Below w.heap.size w w') : w'.ownsRow base e size v n xs := by
  obtain ⟨h1, h2⟩ := h
  refine ⟨h1, ?_⟩
  rcases h2 with h2 | ⟨g, cap, cur, hv, hg, hh, r⟩
  · exact Or.inl h2
  · refine Or.inr ⟨g, cap, cur, hv, hg, ?_, r⟩
    have hlt : g < w.heap.size := by
      rcases Nat.lt_or_ge g w.heap.size with hlt | hge
      · exact hlt
      · rw [Array.getElem?_eq_none hge] at hh; cases hh
    rw [hb.block g hlt]; exact hh
theorem own_shape (h : w.ownsRow base e size v n xs) : ∃ A c, v = .slice A n c ∧ n ≤ c ∧ c ≤ maxLen := by
  rcases h.2 with ⟨hv, hn⟩ | ⟨g, cap, cur, hv, hg, hh, hc, hm, _⟩
  · exact ⟨none, 0, by rw [hv, hn], by omega, by decide⟩
  · exact ⟨_, cap, hv, hc, hm⟩
end

/-- append of ONE one-cell element: the new block of the one element stands, the append follows. -/
theorem wpList_append1 {P : Program} {w0 w : World} {ops : Array Oper} {rest : List Oper} {o : Oper} {a : Act} {Q : Exit → Act → World → Prop} (B : Nat) (hb : Below B w0 w) (hgd : o.guard = none) (s x : Operand) (t : TypeId)
    (ho : o.op = .call { callee := .builtin .append, args := #[s, x], argTypes := #[t, t] })
    (base : Nat) (e : TypeId) (z : Value) (bytes : Nat) (ht : P.underlying t = some (.slice e)) (hi : (P.info? e).map (fun i => (i.zero, i.size, i.bytes)) = some (some z, 1, bytes)) (hzs : z.cells.size = 1)
    (v : Value) (n : Nat) (xs : List Value) (hs : a.eval s = v) (hown : w.ownsRow base e 1 v n xs) (u : Value) (hx : a.eval x = .slice (some ⟨w.heap.size, 0, none⟩) 1 1) (hu : u.oneCell' = true)
    (hn : (n + 1) * bytes ≤ 140737488355328) (hn2 : n + 1 ≤ maxLen) (hbase : base ≤ w.heap.size) (hB : B ≤ base)
    (h : ∀ A c w', w'.ownsRow base e 1 (.slice A (n + 1) c) (n + 1) (xs ++ [u]) → Below B w0 w' → wpList P ops Q rest (a.put o.dst (.slice A (n + 1) c)) w') :
    wpList P ops Q (o :: rest) a (w.alloc (.cells #[u] e)) := by
  obtain ⟨i0, hi0, hz0, hz1, hz2⟩ := info_parts hi
  refine wpList_append_own _ hgd s x t ho base e i0 z 1 bytes ht hi0 hz0 hz1 hz2 hzs (by decide) v n xs hs (hown.alloc _) ⟨w.heap.size, 0, none⟩ 1 1 [u] hx rfl ?_ ?_ hn2 hn (by simp; omega) ?_
  · intro j u' hj
    match j, hj with
    | 0, hj => simp at hj; subst hj; simp [Addr.add]
  · intro u' hu'; simp at hu'; subst hu'; exact hu
  · intro v' w' hown' hg _
    obtain ⟨A, c, rfl, _, _⟩ := own_shape hown'
    refine h A c w' hown' ?_
    refine (hb.alloc (by omega) _).grown hg (by simp; omega) ?_
    intro k hk
    exact Nat.le_trans hB (hown.lt k hk).1

theorem drop_get' {α : Type} (xs : List α) (k : Nat) (x : α) (h : xs[k]? = some x) : xs.drop k = x :: xs.drop (k + 1) := by
  have hk : k < xs.length := by
    rcases Nat.lt_or_ge k xs.length with h1 | h1
    · exact h1
    · rw [List.getElem?_eq_none h1] at h; cases h
  rw [List.drop_eq_getElem_cons hk]
  rw [List.getElem?_eq_getElem hk] at h
  simp at h; rw [h]
theorem take_snoc? {α : Type} (xs : List α) (k : Nat) (x : α) (h : xs[k]? = some x) : xs.take (k + 1) = xs.take k ++ [x] := by
  have hk : k < xs.length := by
    rcases Nat.lt_or_ge k xs.length with h1 | h1
    · exact h1
    · rw [List.getElem?_eq_none h1] at h; cases h
  rw [List.take_succ_eq_append_getElem hk]
  rw [List.getElem?_eq_getElem hk] at h
  simp at h; rw [h]

/-- what a store into block g leaves of the rest. -/
structure Only (g : Nat) (w w' : World) : Prop where
  cell : ∀ a : Addr, a.block ≠ g → w'.cell? a = w.cell? a
  size : w'.heap.size = w.heap.size
  below : ∀ B W0, Below B W0 w → B ≤ g → Below B W0 w'
theorem Only.refl (g : Nat) (w : World) : Only g w w := ⟨fun _ _ => rfl, rfl, fun _ _ h _ => h⟩
theorem Only.set {g : Nat} {w w' : World} (h : Only g w w') (p : Nat) (v : Value) : Only g w (w'.setCell ⟨g, p, none⟩ v) :=
  ⟨fun a hb => (World.cell?_setCell_other w' _ _ _ (by intro h; exact hb (by rw [← h]))).trans (h.cell a hb), by rw [← h.size]; simp [World.setCell],
    fun B W0 hb hB => (h.below B W0 hb hB).setCell (p := ⟨g, p, none⟩) hB _⟩
theorem Only.trans {g : Nat} {w w' w'' : World} (h : Only g w w') (k : Only g w' w'') : Only g w w'' :=
  ⟨fun a hb => (k.cell a hb).trans (h.cell a hb), k.size.trans h.size, fun B W0 hb hB => k.below B W0 (h.below B W0 hb hB) hB⟩
theorem Only.drew {g : Nat} {w w' : World} (h : Only g w w') : Only g w w'.drew := ⟨h.cell, h.size, fun B W0 hb hB => (h.below B W0 hb hB).drew⟩
theorem RB.only {w w' : World} {B g : Nat} {A : Option Addr} {xs : List UInt8} (h : RB w B A xs) (hO : Only g w w') (hg : B ≤ g) : RB w' B A xs :=
  h.keep fun p hp => hO.cell p (by omega)

end Go.Proofs.Ytjdokaiadljeeaa
