/-
  Words for memory, without a program: a slice value that reads as a list of cells; what is kept of it over new blocks, draws and stores elsewhere.
-/
import Derived.WalkKit
import Derived.WalkSpells
import Derived.WalkLawsBesides
import Derived.Deep.AppendLies
import Derived.Deep.Draws
import Derived.Lib.Hide
import Derived.DataReads
import Derived.Test.YtlacidnnankjlaaGreatDoorProg
import Derived.Deep.QuietTactic
import Derived.BigQuiet
import Derived.Outline
import Derived.Maps.AppendAt
import Derived.Laws.CopyOwn
import Derived.Laws.Tables
import Derived.Deep.RegionLaw
import Derived.Laws.BitsAllLaws
import Derived.Deep.RegionHeld3
import Derived.Deep.CutRange
import Derived.Deep.CutBlock
import Derived.StillTailTactics
import Derived.WalkMore
import Derived.ScopeJumps
namespace Go.Proofs.YtlacidnnankjlaaGreatDoor
open Go.RowKit

theorem block_of_add (a : Addr) (n : Nat) : (a.add n).block = a.block := by unfold Addr.add; split <;> rfl
theorem add_of_add (a : Addr) (i j : Nat) : (a.add i).add j = a.add (i + j) := by
  unfold Addr.add
  by_cases hi : i = 0 <;> by_cases hj : j = 0 <;> simp [hi, hj, Nat.add_assoc]

/-- the slice value '.slice A n c' reads as the cells xs ('size' cells an element), in blocks below B. -/
def Reads (w : World) (B size : Nat) (A : Option Addr) (n : Nat) (xs : List Value) : Prop :=
  xs.length = n * size ∧ (0 < n → ∃ ad, A = some ad ∧ ad.block < B ∧ ∀ j u, xs[j]? = some u → w.cell? (ad.add j) = some u)

section
variable {w w' : World} {B B' size n : Nat} {A : Option Addr} {xs : List Value}
theorem Reads.none_ : Reads w B size A 0 [] := ⟨by simp, fun h => absurd h (by omega)⟩
theorem Reads.at_ {k : Nat} (h : Reads w B 1 A n xs) (hk : k < n) : ∃ ad u, A = some ad ∧ ad.block < B ∧ xs[k]? = some u ∧ w.cell? (ad.add k) = some u := by
  obtain ⟨ad, e, hb, hc⟩ := h.2 (by omega)
  have hl : k < xs.length := by have := h.1; omega
  exact ⟨ad, xs[k], e, hb, List.getElem?_eq_getElem hl, hc k _ (List.getElem?_eq_getElem hl)⟩
theorem Reads.keep (h : Reads w B size A n xs) (hk : ∀ p : Addr, p.block < B → w'.cell? p = w.cell? p) : Reads w' B size A n xs :=
  ⟨h.1, fun hn => by
    obtain ⟨ad, e, hb, hc⟩ := h.2 hn
    exact ⟨ad, e, hb, fun j u hu => (hk _ (by rw [block_of_add]; exact hb)).trans (hc j u hu)⟩⟩
theorem Reads.more (h : Reads w B size A n xs) (hB : B ≤ B') : Reads w B' size A n xs :=
  ⟨h.1, fun hn => by
    obtain ⟨ad, e, hb, hc⟩ := h.2 hn
    exact ⟨ad, e, by omega, hc⟩⟩
theorem Reads.below (h : Reads w B size A n xs) (hb : Below B w w') : Reads w' B size A n xs := h.keep fun _ hp => hb.cell hp
theorem Reads.drewN (h : Reads w B size A n xs) (k : Nat) : Reads (w.drewN k) B size A n xs := h
theorem Reads.cut (h : Reads w B size A n xs) {k cap : Nat} (hk : k ≤ n) (hc : n ≤ cap) :
    Reads w B size (if cap = k then A else A.map (·.add (k * size))) (n - k) (xs.drop (k * size)) := by
  refine ⟨by rw [List.length_drop, h.1, Nat.sub_mul], fun hn => ?_⟩
  obtain ⟨ad, rfl, hb, hcell⟩ := h.2 (by omega)
  rw [if_neg (by omega)]
  refine ⟨ad.add (k * size), rfl, by rw [block_of_add]; exact hb, fun j u hu => ?_⟩
  rw [add_of_add]
  exact hcell _ u (by rw [← hu, List.getElem?_drop])
theorem Reads.of_own {base : Nat} {e : TypeId} {c : Nat} (h : w.ownsRow base e size (.slice A n c) n xs) : Reads w w.heap.size size A n xs := by
  refine ⟨h.1, fun hn => ?_⟩
  obtain ⟨g, cap, hv, _, hlt⟩ := h.form hn
  have hA : A = some ⟨g, 0, none⟩ := by injection hv
  subst hA
  exact ⟨_, rfl, hlt, h.cells (g := g) rfl⟩
end

/-- a byte's cell -/
abbrev bv (x : UInt8) : Value := .int .u8 (x.toNat : Int)

/-- the slice value '.slice A xs.length c' reads as the bytes xs, in blocks below B -/
def RB (w : World) (B : Nat) (A : Option Addr) (xs : List UInt8) : Prop := Reads w B 1 A xs.length (xs.map bv)

section
variable {w w' : World} {B B' : Nat} {A : Option Addr} {xs : List UInt8}
theorem RB.at_ {k : Nat} (h : RB w B A xs) (hk : k < xs.length) : ∃ ad x, A = some ad ∧ ad.block < B ∧ xs[k]? = some x ∧ w.cell? (ad.add k) = some (.int .u8 (x.toNat : Int)) := by
  obtain ⟨ad, u, hA, hb, hu, hc⟩ := Reads.at_ h hk
  refine ⟨ad, xs[k], hA, hb, List.getElem?_eq_getElem hk, ?_⟩
  rw [List.getElem?_map, List.getElem?_eq_getElem hk] at hu
  simp only [Option.map_some, Option.some.injEq] at hu
  rw [hc, ← hu]
/-- the same, with the address written out. -/
theorem RB.get {k : Nat} (h : RB w B A xs) (hk : k < xs.length) : ∃ b o x, A = some ⟨b, o, none⟩ ∧ b < B ∧ xs[k]? = some x ∧ w.cell? ⟨b, o + k, none⟩ = some (.int .u8 (x.toNat : Int)) := by
  obtain ⟨ad, x, hA, hb, hx, hc⟩ := h.at_ hk
  obtain ⟨ad0, x0, hA0, _, _, hc0⟩ := h.at_ (k := 0) (by omega)
  rw [hA] at hA0
  injection hA0 with hA0
  subst hA0
  obtain ⟨b, o, spot⟩ := ad
  have hspot : spot = none := by
    have := World.cell?_spot hc0
    simpa [Addr.add] using this
  subst hspot
  refine ⟨b, o, x, hA, hb, hx, ?_⟩
  rw [← hc]
  congr 1
  unfold Addr.add
  by_cases h1 : k = 0
  · rw [if_pos h1, h1]; simp
  · rw [if_neg h1]
theorem RB.same_at {b o b' o' : Nat} (h : A = some ⟨b, o, none⟩) (h' : A = some ⟨b', o', none⟩) : b' = b ∧ o' = o := by
  rw [h] at h'
  injection h' with h'
  injection h' with h1 h2
  exact ⟨h1.symm, h2.symm⟩
theorem RB.keep (h : RB w B A xs) (hk : ∀ p : Addr, p.block < B → w'.cell? p = w.cell? p) : RB w' B A xs := Reads.keep h hk
theorem RB.more (h : RB w B A xs) (hB : B ≤ B') : RB w B' A xs := Reads.more h hB
theorem RB.below (h : RB w B A xs) (hb : Below B w w') : RB w' B A xs := Reads.below h hb
theorem RB.drewN (h : RB w B A xs) (k : Nat) : RB (w.drewN k) B A xs := h
theorem RB.nil : RB w B A [] := ⟨by simp, fun h => by simp at h⟩
/-- what is read below the heap's size is read behind a step that leaves old memory alone, wherever the bound lies. -/
theorem RB.next (h : RB w w.heap.size A xs) (hb : Below w.heap.size w w') : RB w' w'.heap.size A xs := (h.below hb).more hb.size
theorem RB.of_own {base : Nat} {e : TypeId} {c : Nat} (h : w.ownsRow base e 1 (.slice A xs.length c) xs.length (xs.map bv)) : RB w w.heap.size A xs := Reads.of_own h
end

/-- a block that was just laid, read whole (a literal). -/
theorem RB.lit (w : World) (e : TypeId) (C : Array Value) (fr : Nat × Nat) (xs : List UInt8) (h : C.toList = xs.map bv) : RB (w.alloc (.cells C e fr)) (w.alloc (.cells C e fr)).heap.size (some ⟨w.heap.size, 0, none⟩) xs := by
  refine ⟨by simp, fun _ => ⟨_, rfl, by simp, fun j u hu => ?_⟩⟩
  rw [← h] at hu
  have h1 : (w.alloc (.cells C e fr)).heap[w.heap.size]? = some (.cells C e fr) := by
    show (w.heap.push (.cells C e fr))[w.heap.size]? = _
    simp
  have h2 : ((⟨w.heap.size, 0, none⟩ : Addr).add j) = ⟨w.heap.size, j, none⟩ := by
    unfold Addr.add
    by_cases hj : j = 0 <;> simp [hj]
  rw [h2]
  unfold World.cell?
  simp only [h1]
  simpa using hu
theorem RB.take {w : World} {B : Nat} {A : Option Addr} {xs : List UInt8} (h : RB w B A xs) (j : Nat) : RB w B A (xs.take j) := by
  refine ⟨by simp, fun hn => ?_⟩
  rw [List.length_take] at hn
  obtain ⟨ad, hA, hb, hc⟩ := h.2 (by omega)
  refine ⟨ad, hA, hb, fun i u hu => hc i u ?_⟩
  rw [List.map_take] at hu
  rw [List.getElem?_take] at hu
  split at hu
  · exact hu
  · cases hu
theorem RB.cut {w : World} {B : Nat} {A : Option Addr} {xs : List UInt8} (h : RB w B A xs) {k cap : Nat} (hk : k ≤ xs.length) (hc : xs.length ≤ cap) : RB w B (if cap = k then A else A.map (·.add k)) (xs.drop k) := by
  have := Reads.cut (cap := cap) h hk hc
  simp only [Nat.mul_one] at this
  unfold RB
  rw [List.length_drop, List.map_drop]
  exact this
theorem RB.cutlt {w : World} {B : Nat} {A : Option Addr} {xs : List UInt8} (h : RB w B A xs) {k : Nat} (hk : k < xs.length) : RB w B (A.map (·.add k)) (xs.drop k) := by
  have := h.cut (k := k) (cap := xs.length) (by omega) (Nat.le_refl _)
  rwa [if_neg (by omega)] at this
theorem RB.cut_at {w : World} {B g o : Nat} {xs : List UInt8} (h : RB w B (some ⟨g, o, none⟩) xs) {k : Nat} (hk : k < xs.length) : RB w B (some ⟨g, o + k, none⟩) (xs.drop k) := by
  have := h.cutlt hk
  have e : ((some ⟨g, o, none⟩ : Option Addr).map (·.add k)) = some ⟨g, o + k, none⟩ := by
    simp only [Option.map_some, Option.some.injEq]
    unfold Addr.add
    by_cases h0 : k = 0
    · rw [if_pos h0, h0]; simp
    · rw [if_neg h0]
  rwa [e] at this
theorem below_drewN {B : Nat} {a w : World} (h : Below B a w) (n : Nat) : Below B a (w.drewN n) := ⟨h.os, h.tape, h.output, h.size, h.block⟩
section
variable {w w' : World} {base : Nat} {e : TypeId} {size : Nat} {v : Value} {n : Nat} {xs : List Value}
theorem own_base {base' : Nat} (h : w.ownsRow base e size v n xs) (hb : base' ≤ base) : w.ownsRow base' e size v n xs := by
  obtain ⟨h1, h2⟩ := h
  refine ⟨h1, ?_⟩
  rcases h2 with h2 | ⟨g, cap, cur, hv, hg, r⟩
  · exact Or.inl h2
  · exact Or.inr ⟨g, cap, cur, hv, by omega, r⟩
theorem own_below (h : w.ownsRow base e size v n xs) (hb : Below w.heap.size w w') : w'.ownsRow base e size v n xs := by
  obtain ⟨h1, h2⟩ := h
  refine ⟨h1, ?_⟩
  rcases h2 with h2 | ⟨g, cap, cur, hv, hg, hh, r⟩
  · exact Or.inl h2
  · refine Or.inr ⟨g, cap, cur, hv, hg, ?_, r⟩
    have hlt : g < w.heap.size := by
      rcases Nat.lt_or_ge g w.heap.size with hlt | hge
      · exact hlt
      · rw [Array.getElem?_eq_none hge] at hh; cases hh
    rw [hb.block g hlt]; exact hh
theorem own_shape (h : w.ownsRow base e size v n xs) : ∃ A c, v = .slice A n c ∧ n ≤ c ∧ c ≤ maxLen := by
  rcases h.2 with ⟨hv, hn⟩ | ⟨g, cap, cur, hv, hg, hh, hc, hm, _⟩
  · exact ⟨none, 0, by rw [hv, hn], by omega, by decide⟩
  · exact ⟨_, cap, hv, hc, hm⟩
end

/-- append of ONE one-cell element: the new block of the one element stands, the append follows. -/
theorem wpList_append1 {P : Program} {w0 w : World} {ops : Array Oper} {rest : List Oper} {o : Oper} {a : Act} {Q : Exit → Act → World → Prop} (B : Nat) (hb : Below B w0 w) (hgd : o.guard = none) (s x : Operand) (t : TypeId)
    (ho : o.op = .call { callee := .builtin .append, args := #[s, x], argTypes := #[t, t] })
    (base : Nat) (e : TypeId) (z : Value) (bytes : Nat) (ht : P.underlying t = some (.slice e)) (hi : (P.info? e).map (fun i => (i.zero, i.size, i.bytes)) = some (some z, 1, bytes)) (hzs : z.cells.size = 1)
    (v : Value) (n : Nat) (xs : List Value) (hs : a.eval s = v) (hown : w.ownsRow base e 1 v n xs) (u : Value) (hx : a.eval x = .slice (some ⟨w.heap.size, 0, none⟩) 1 1) (hu : u.oneCell' = true)
    (hn : (n + 1) * bytes ≤ 140737488355328) (hn2 : n + 1 ≤ maxLen) (hbase : base ≤ w.heap.size) (hB : B ≤ base)
    (h : ∀ A c w', w'.ownsRow base e 1 (.slice A (n + 1) c) (n + 1) (xs ++ [u]) → Below B w0 w' → wpList P ops Q rest (a.put o.dst (.slice A (n + 1) c)) w') :
    wpList P ops Q (o :: rest) a (w.alloc (.cells #[u] e)) := by
  obtain ⟨i0, hi0, hz0, hz1, hz2⟩ := info_parts hi
  refine wpList_append_own _ hgd s x t ho base e i0 z 1 bytes ht hi0 hz0 hz1 hz2 hzs (by decide) v n xs hs (hown.alloc _) ⟨w.heap.size, 0, none⟩ 1 1 [u] hx rfl ?_ ?_ hn2 hn (by simp; omega) ?_
  · intro j u' hj
    match j, hj with
    | 0, hj => simp at hj; subst hj; simp [Addr.add]
  · intro u' hu'; simp at hu'; subst hu'; exact hu
  · intro v' w' hown' hg _
    obtain ⟨A, c, rfl, _, _⟩ := own_shape hown'
    refine h A c w' hown' ?_
    refine (hb.alloc (by omega) _).grown hg (by simp; omega) ?_
    intro k hk
    exact Nat.le_trans hB (hown.lt k hk).1

theorem drop_get' {α : Type} (xs : List α) (k : Nat) (x : α) (h : xs[k]? = some x) : xs.drop k = x :: xs.drop (k + 1) := by
  have hk : k < xs.length := by
    rcases Nat.lt_or_ge k xs.length with h1 | h1
    · exact h1
    · rw [List.getElem?_eq_none h1] at h; cases h
  rw [List.drop_eq_getElem_cons hk]
  rw [List.getElem?_eq_getElem hk] at h
  simp at h; rw [h]
theorem take_snoc? {α : Type} (xs : List α) (k : Nat) (x : α) (h : xs[k]? = some x) : xs.take (k + 1) = xs.take k ++ [x] := by
  have hk : k < xs.length := by
    rcases Nat.lt_or_ge k xs.length with h1 | h1
    · exact h1
    · rw [List.getElem?_eq_none h1] at h; cases h
  rw [List.take_succ_eq_append_getElem hk]
  rw [List.getElem?_eq_getElem hk] at h
  simp at h; rw [h]

/-- what a store into block g leaves of the rest. -/
structure Only (g : Nat) (w w' : World) : Prop where
  cell : ∀ a : Addr, a.block ≠ g → w'.cell? a = w.cell? a
  size : w'.heap.size = w.heap.size
  below : ∀ B W0, Below B W0 w → B ≤ g → Below B W0 w'
theorem Only.refl (g : Nat) (w : World) : Only g w w := ⟨fun _ _ => rfl, rfl, fun _ _ h _ => h⟩
theorem Only.set {g : Nat} {w w' : World} (h : Only g w w') (p : Nat) (v : Value) : Only g w (w'.setCell ⟨g, p, none⟩ v) :=
  ⟨fun a hb => (World.cell?_setCell_other w' _ _ _ (by intro h; exact hb (by rw [← h]))).trans (h.cell a hb), by rw [← h.size]; simp [World.setCell],
    fun B W0 hb hB => (h.below B W0 hb hB).setCell (p := ⟨g, p, none⟩) hB _⟩
theorem Only.trans {g : Nat} {w w' w'' : World} (h : Only g w w') (k : Only g w' w'') : Only g w w'' :=
  ⟨fun a hb => (k.cell a hb).trans (h.cell a hb), k.size.trans h.size, fun B W0 hb hB => k.below B W0 (h.below B W0 hb hB) hB⟩
theorem Only.drew {g : Nat} {w w' : World} (h : Only g w w') : Only g w w'.drew := ⟨h.cell, h.size, fun B W0 hb hB => (h.below B W0 hb hB).drew⟩
theorem RB.only {w w' : World} {B g : Nat} {A : Option Addr} {xs : List UInt8} (h : RB w B A xs) (hO : Only g w w') (hg : B ≤ g) : RB w' B A xs :=
  h.keep fun p hp => hO.cell p (by omega)

end Go.Proofs.YtlacidnnankjlaaGreatDoor

/-
  Numbers as bytes, the highest first, and back, in plain Lean.
-/
namespace Go.Proofs.YtlacidnnankjlaaGreatDoor

/-- a number's so many bytes, the highest first. -/
def big : Nat → Nat → List UInt8
  | 0, _ => []
  | k + 1, n => UInt8.ofNat (n / 256 ^ k) :: big k n
/-- back. -/
def ofB (xs : List UInt8) : Nat := xs.foldl (fun v x => v * 256 + x.toNat) 0
theorem big_length (k n : Nat) : (big k n).length = k := by
  induction k with
  | zero => rfl
  | succ k ih => simp [big, ih]
theorem ofB_snoc (xs : List UInt8) (x : UInt8) : ofB (xs ++ [x]) = ofB xs * 256 + x.toNat := by simp [ofB]
theorem ofB_lt (xs : List UInt8) : ofB xs < 256 ^ xs.length := by
  have : ∀ (n : Nat) (xs : List UInt8), xs.length = n → ofB xs < 256 ^ n := by
    intro n
    induction n with
    | zero => intro xs h; rw [List.eq_nil_of_length_eq_zero h]; simp [ofB]
    | succ n ih =>
      intro xs h
      have hne : xs ≠ [] := by intro h0; rw [h0] at h; simp at h
      have e := List.dropLast_concat_getLast hne
      have h1 := ih xs.dropLast (by simp; omega)
      have h2 := (xs.getLast hne).toNat_lt
      rw [← e, ofB_snoc, Nat.pow_succ]
      omega
  exact this _ xs rfl
theorem take_big (k n j : Nat) (hj : j < k) : (big k n)[j]? = some (UInt8.ofNat (n / 256 ^ (k - 1 - j))) := by
  induction k generalizing j with
  | zero => omega
  | succ k ih =>
    cases j with
    | zero => simp [big]
    | succ j =>
      simp only [big, List.getElem?_cons_succ]
      rw [ih j (by omega)]
      congr 4; omega
theorem big_take_snoc (k n j : Nat) (hj : j < k) : (big k n).take (j + 1) = (big k n).take j ++ [UInt8.ofNat (n / 256 ^ (k - 1 - j))] := take_snoc? _ _ _ (take_big k n j hj)
theorem shift_or (a : Nat) (x : Nat) (hx : x < 256) : (a * 256) ||| x = a * 256 + x := by
  have := Nat.two_pow_add_eq_or_of_lt (i := 8) (by simpa using hx) a
  rw [show a * 256 = 2 ^ 8 * a by omega]
  exact this.symm
theorem byte_shr (n : Nat) (k : Nat) : ((n / 256 ^ k : Nat) : Int) % 256 = (((UInt8.ofNat (n / 256 ^ k)).toNat : Nat) : Int) := by
  rw [UInt8.toNat_ofNat']
  omega
end Go.Proofs.YtlacidnnankjlaaGreatDoor

/-
  The internet's sum in plain Lean: of natural numbers; 'fold' is what the foldings end in.
-/
namespace Go.Proofs.YtlacidnnankjlaaGreatDoor.Sm

def fold (n : Nat) : Nat := if n = 0 then 0 else (n - 1) % 65535 + 1
def tot : List UInt8 → Nat
  | [] => 0
  | [a] => a.toNat * 256
  | a :: b :: r => a.toNat * 256 + b.toNat + tot r
def add (s : Nat) (xs : List UInt8) : Nat := fold (s + tot xs)
def check (xs : List UInt8) : Nat := 65535 - add 0 xs

theorem fold_le (n : Nat) : fold n ≤ 65535 := by unfold fold; split <;> omega
theorem fold_small {n : Nat} (h : n ≤ 65535) : fold n = n := by unfold fold; split <;> omega
theorem fold_step (n : Nat) : fold (n % 65536 + n / 65536) = fold n := by
  unfold fold
  split <;> split <;> omega
theorem fold_add (a b : Nat) : fold (fold a + b) = fold (a + b) := by
  unfold fold
  split <;> split <;> split <;> omega
theorem tot_append_even : ∀ (xs ys : List UInt8), xs.length % 2 = 0 → tot (xs ++ ys) = tot xs + tot ys
  | [], ys, _ => by simp [tot]
  | [_], _, h => by simp at h
  | a :: b :: r, ys, h => by
    have := tot_append_even r ys (by simp at h; omega)
    show a.toNat * 256 + b.toNat + tot (r ++ ys) = a.toNat * 256 + b.toNat + tot r + tot ys
    omega
theorem tot_le : ∀ (xs : List UInt8), tot xs ≤ 65535 * xs.length
  | [] => by simp [tot]
  | [a] => by have := a.toNat_lt; simp [tot]; omega
  | a :: b :: r => by
    have := tot_le r
    have h1 := a.toNat_lt
    have h2 := b.toNat_lt
    simp only [tot, List.length_cons]
    omega
theorem add_append (s : Nat) (xs ys : List UInt8) (h : xs.length % 2 = 0) : add (add s xs) ys = add s (xs ++ ys) := by
  unfold add
  rw [fold_add, tot_append_even xs ys h]
  congr 1; omega
theorem add_le (s : Nat) (xs : List UInt8) : add s xs ≤ 65535 := fold_le _
theorem check_le (xs : List UInt8) : check xs ≤ 65535 := by unfold check; omega
/-- the next two bytes, or the last one. -/
def next : List UInt8 → Nat
  | [] => 0
  | [a] => a.toNat * 256
  | a :: b :: _ => a.toNat * 256 + b.toNat
end Go.Proofs.YtlacidnnankjlaaGreatDoor.Sm

/-
  The walks of EqBytes and Within.
-/
namespace Go.Proofs.YtlacidnnankjlaaGreatDoor
open Go.RowKit

end Go.Proofs.YtlacidnnankjlaaGreatDoor

/-
  The walk of CopyBytes.
-/
namespace Go.Proofs.YtlacidnnankjlaaGreatDoor
open Go.RowKit

theorem info_u8 : (Tryz.prog.info? 5).map (fun i => (i.zero, i.size, i.bytes)) = some (some (.int .u8 0), 1, 1) := by kernel_rfl

set_option maxHeartbeats 400000 in
set_option maxRecDepth 100000 in
theorem copyBytes (xs : List UInt8) (A : Option Addr) (c : Nat) (w : World) (hx : RB w w.heap.size A xs) (hn : xs.length ≤ 140737488351232) :
    Calls Tryz.prog 59 #[.slice A xs.length c] w fun e w' => ∃ A' c', e = .returned (.slice A' xs.length c') ∧ w'.ownsRow w.heap.size 5 1 (.slice A' xs.length c') xs.length (xs.map bv) ∧ Below w.heap.size w w' := by
  go_enter Tryz.func59, Tryz.ntmps59
  go_wp2
  go_loopw [3, 4] (fun v i wr => ∃ k : Nat, k ≤ xs.length ∧ i = .int .i64 k ∧ wr.ownsRow w.heap.size 5 1 v k ((xs.take k).map bv) ∧ Below w.heap.size w wr)
    (fun _ i _ => xs.length - (intOf i).toNat)
  case atStart => exact ⟨0, Nat.zero_le _, rfl, World.ownsRow_nil _ _ _ _, Below.refl _ _⟩
  case round =>
    obtain ⟨k, hk, rfl, hown, hnx⟩ := hrel
    by_cases hlt : k < xs.length
    · obtain ⟨ad, u, rfl, hb, hu, hcell⟩ := (hx.below hnx).at_ hlt
      have hts := take_snoc? xs k u hu
      have HS : Hid ((xs.take (k+1)).map bv = (xs.take k).map bv ++ [.int .u8 (u.toNat : Int)]) := by rw [hts]; simp [Hid]
      clear hts hu
      go_wp2_with (at_builtin; refine wpList_append1 w.heap.size hnx rfl _ _ 31 rfl w.heap.size 5 (.int .u8 0) 1 Tryz.underlying31 info_u8 rfl _ _ _ (by exact rfl) hown (.int .u8 (u.toNat : Int)) (by exact rfl) rfl (by omega) (by unfold maxLen; omega) hnx.size (Nat.le_refl _) ?_; intro A' c' w' hown' hb')
      go_roundw
      case rel => exact ⟨k + 1, by omega, by go_num, by rw [HS.out]; exact hown', hb'⟩
      case measure => simp [intOf]; omega
    · obtain rfl : k = xs.length := by omega
      obtain ⟨A', c', rfl, _, _⟩ := own_shape hown
      go_wp2
      go_ret
      exact ⟨A', c', rfl, by simpa using hown, hnx⟩

end Go.Proofs.YtlacidnnankjlaaGreatDoor

/-
  Laws for memory, without a program: append of what is read onto a row of the call's own; copy into such a row.
-/
namespace Go.Proofs.YtlacidnnankjlaaGreatDoor
open Go.RowKit

section
variable {P : Program} (w : World)
theorem run_append_of_nil (base : Nat) (t ty e : TypeId) (i : TypeInfo) (size : Nat) (ht : P.underlying t = some (.slice e)) (hi : P.info? e = some i)
    (v : Value) (n : Nat) (xs : List Value) (hown : w.ownsRow base e size v n xs) (c : Nat) : (Builtin.append_ #[t, t] ty #[v, .slice none 0 c]).run P w = .ok v w := by
  rcases hown.2 with ⟨rfl, rfl⟩ | ⟨g, cap, cur, rfl, _, _, hnc, _⟩
  · simp [Builtin.append_, run_underlying ht, sizeOf, typeInfo, hi, Builtin.lenOf, Builtin.firstCells]
  · simp [Builtin.append_, run_underlying ht, sizeOf, typeInfo, hi, Builtin.lenOf, Builtin.firstCells, hnc, storeCells]

/-- append(v, src...): v the call's own, src whatever is read (nil, empty or not). -/
theorem run_append_read (base : Nat) (t ty e : TypeId) (z : Value) (size bytes : Nat) (ht : P.underlying t = some (.slice e)) (hi : (P.info? e).map (fun i => (i.zero, i.size, i.bytes)) = some (some z, size, bytes)) (hzs : z.cells.size = size) (hsz : 0 < size)
    (v : Value) (n : Nat) (xs : List Value) (hown : w.ownsRow base e size v n xs)
    (B : Nat) (A : Option Addr) (m c : Nat) (news : List Value) (hr : Reads w B size A m news) (h1 : ∀ u ∈ news, u.oneCell' = true)
    (h63 : n + m ≤ maxLen) (hbytes : (n + m) * bytes ≤ 140737488355328) (hbase : base ≤ w.heap.size) :
    ∃ A' c' w', (Builtin.append_ #[t, t] ty #[v, .slice A m c]).run P w = .ok (.slice A' (n + m) c') w' ∧ w'.ownsRow base e size (.slice A' (n + m) c') (n + m) (xs ++ news) ∧ w.grownBy w' v.ownBlock := by
  obtain ⟨i, hi0, hz0, hz1, hz2⟩ := info_parts hi
  rcases A with _ | ad
  · have hm : m = 0 := by
      rcases Nat.eq_zero_or_pos m with h0 | h0
      · exact h0
      · obtain ⟨ad, h, _⟩ := hr.2 h0
        cases h
    subst hm
    have hn : news = [] := List.eq_nil_of_length_eq_zero (by simpa using hr.1)
    subst hn
    obtain ⟨A, c1, rfl, _, _⟩ := own_shape hown
    exact ⟨A, c1, w, run_append_of_nil w base t ty e i size ht hi0 _ n xs hown c, by simpa using hown, World.grownBy.refl w _⟩
  · have hcells : ∀ j u, news[j]? = some u → w.cell? (ad.add j) = some u := by
      intro j u hu
      rcases Nat.eq_zero_or_pos m with h0 | h0
      · subst h0
        have hn : news = [] := List.eq_nil_of_length_eq_zero (by simpa using hr.1)
        subst hn
        simp at hu
      · obtain ⟨ad', h, _, hc⟩ := hr.2 h0
        injection h with h
        subst h
        exact hc j u hu
    obtain ⟨v', w', hrun, h2, h3, _, _⟩ := run_append_own_at (P := P) w base t ty e i z size bytes ht hi0 hz0 hz1 hz2 hzs hsz v n xs hown ad m c news hr.1 hcells h1 h63 hbytes hbase
    obtain ⟨A', c', rfl, _, _⟩ := own_shape h2
    exact ⟨A', c', w', hrun, h2, h3⟩
end

theorem own_form {w : World} {base : Nat} {e : TypeId} {size n c : Nat} {A : Option Addr} {xs : List Value} (h : w.ownsRow base e size (.slice A n c) n xs) (hn : 0 < n) : ∃ g, A = some ⟨g, 0, none⟩ ∧ base ≤ g ∧ g < w.heap.size := by
  obtain ⟨g, cap, hA, hg, hg2⟩ := h.form hn
  injection hA with hA _ _
  exact ⟨g, hA, hg, hg2⟩
theorem bv_one (xs : List UInt8) : ∀ u ∈ xs.map bv, u.oneCell' = true := by
  intro u hu
  obtain ⟨x, _, rfl⟩ := List.mem_map.1 hu
  rfl

/-- append(v, src...) of bytes, at the list of a plain region. -/
theorem wpList_append_bytes {P : Program} {w0 w : World} {ops : Array Oper} {rest : List Oper} {o : Oper} {a : Act} {Q : Exit → Act → World → Prop} (B : Nat) (hb : Below B w0 w) (hgd : o.guard = none) (s x : Operand) (t : TypeId)
    (ho : o.op = .call { callee := .builtin .append, args := #[s, x], argTypes := #[t, t] })
    (base : Nat) (e : TypeId) (ht : P.underlying t = some (.slice e)) (hi : (P.info? e).map (fun i => (i.zero, i.size, i.bytes)) = some (some (.int .u8 0), 1, 1))
    (v : Value) (n : Nat) (xs : List UInt8) (hs : a.eval s = v) (hown : w.ownsRow base e 1 v n (xs.map bv)) (A : Option Addr) (m c : Nat) (ys : List UInt8) (hm : ys.length = m) (hx : a.eval x = .slice A m c) (hr : RB w w.heap.size A ys)
    (hn : n + m ≤ 140737488355328) (hbase : base ≤ w.heap.size) (hB : B ≤ base)
    (h : ∀ A' c' w', w'.ownsRow base e 1 (.slice A' (n + m) c') (n + m) ((xs ++ ys).map bv) → Below B w0 w' → wpList P ops Q rest (a.put o.dst (.slice A' (n + m) c')) w') :
    wpList P ops Q (o :: rest) a w := by
  subst hm
  refine wpList_plain hgd fun K hK => ?_
  obtain ⟨A', c', w', hrun, h2, h3⟩ := run_append_read (P := P) w base t o.type e (.int .u8 0) 1 1 ht hi rfl (by decide) v n (xs.map bv) hown w.heap.size A ys.length c (ys.map bv) hr (bv_one ys) (by unfold maxLen; omega) (by omega) hbase
  unfold Oper.wp execOp
  simp only [ho, resolve, invoke, builtin, Sem.run_bind, Sem.run_pure, Result.andThen_ok, List.map_toArray, List.map_cons, List.map_nil, hs, hx, hrun]
  refine hK _ _ (h A' c' w' (by rw [List.map_append]; exact h2) (hb.grown h3 (by omega) ?_))
  intro k hk
  exact Nat.le_trans hB (hown.lt k hk).1

/-- what is owned, its first cells written over from 'off' on. -/
theorem own_splice {w : World} {base g n cap : Nat} {e : TypeId} {xs : List UInt8} (hown : w.ownsRow base e 1 (.slice (some ⟨g, 0, none⟩) n cap) n (xs.map bv)) (off : Nat) (ys : List UInt8) (hfit : off + ys.length ≤ n) :
    ∃ cur, w.heap[g]? = some (.cells cur e (0, 0)) ∧ off + (ys.map bv).length ≤ cur.size ∧
      (w.setRow g (cur.toList.take off ++ (ys.map bv) ++ cur.toList.drop (off + (ys.map bv).length)).toArray).ownsRow base e 1 (.slice (some ⟨g, 0, none⟩) n cap) n ((xs.take off ++ ys ++ xs.drop (off + ys.length)).map bv) := by
  obtain ⟨hl, h2⟩ := hown
  have hl' : xs.length = n := by simpa using hl
  rcases h2 with ⟨h, _⟩ | ⟨g', cap', cur, hv, hg, hh, hc, hm, hsz, htk⟩
  · cases h
  · injection hv with h1 _ h3
    injection h1 with h1
    injection h1 with h1
    subst h1; subst h3
    have hcur : cur.toList.length = cap := by simpa using hsz
    refine ⟨cur, hh, by simp; omega, by simp; omega, Or.inr ⟨g, cap, _, rfl, hg, setRow_heap w g cur _ e (0, 0) hh, hc, hm, ?_, ?_⟩⟩
    · simp only [List.size_toArray, List.length_append, List.length_take, List.length_drop, List.length_map, hcur, Nat.mul_one]
      omega
    · rw [Nat.mul_one] at htk ⊢
      have e1 : cur.toList = xs.map bv ++ cur.toList.drop n := by rw [← htk, List.take_append_drop]
      have e2 : cur.toList.take off = (xs.take off).map bv := by
        rw [e1, List.take_append_of_le_length (by simp; omega), List.map_take]
      have e3 : cur.toList.drop (off + ys.length) = (xs.drop (off + ys.length)).map bv ++ cur.toList.drop n := by
        conv => lhs; rw [e1]
        rw [List.drop_append_of_le_length (by simp; omega), List.map_drop]
      simp only [List.length_map]
      rw [e2, e3, ← List.append_assoc, ← List.map_append, ← List.map_append]
      rw [List.take_append_of_le_length (by simp; omega)]
      rw [List.take_of_length_le (by simp; omega)]

theorem only_setRow (g : Nat) (w : World) (cs : Array Value) : Only g w (w.setRow g cs) :=
  ⟨fun a ha => cell_setRow_other w g cs a ha, size_setRow w g cs, fun _ _ hb hB => below_setRow hb hB cs⟩

/-- copy into a row of the call's own, from what is read: as one step of a region that draws. -/
theorem step_copy_bytes {P : Program} {ops : Array Oper} {o : Oper} {a : Act} {w : World} {K : Act → World → Prop} {Q : Exit → Act → World → Prop} {E : Prop} (hgd : o.guard = none) (d s : Operand) (dT sT : TypeId)
    (ho : o.op = .call { callee := .builtin .copy, args := #[d, s], argTypes := #[dT, sT] }) (elem : TypeId) (hu : P.underlying dT = some (.slice elem)) (hsz : (P.info? elem).map (·.size) = some 1)
    (g off dLen dCap : Nat) (A : Option Addr) (sLen sCap : Nat) (hd : a.eval d = .slice (some ⟨g, off, none⟩) dLen dCap) (hs : a.eval s = .slice A sLen sCap)
    (base n cap : Nat) (xs ys : List UInt8) (hown : w.ownsRow base elem 1 (.slice (some ⟨g, 0, none⟩) n cap) n (xs.map bv)) (hr : RB w w.heap.size A ys) (hl : ys.length = sLen) (hle : ys.length ≤ dLen) (hfit : off + ys.length ≤ n) (h0 : 0 < ys.length)
    (h : ∀ w', w'.ownsRow base elem 1 (.slice (some ⟨g, 0, none⟩) n cap) n ((xs.take off ++ ys ++ xs.drop (off + ys.length)).map bv) → Only g w w' → K (a.put o.dst (goInt ys.length)) w') :
    if Region.wanted o (yielded ops a.tmps) = true then Oper.wp P o a w K Q else E := by
  have hw : Region.wanted o (yielded ops a.tmps) = true := by simp [Region.wanted, hgd]
  rw [if_pos hw]
  subst hl
  obtain ⟨ad, rfl, _, hc⟩ := hr.2 h0
  obtain ⟨cur, hg, hf, ho2⟩ := own_splice hown off ys hfit
  have hrun := run_copy_row (P := P) w dT sT o.type elem g off dLen dCap ad ys.length sCap cur elem (ys.map bv) hu hsz hg (by simp [Nat.min_eq_left hle]) hc hf (bv_one ys)
  unfold Oper.wp
  simp [execOp, ho, resolve, invoke, builtin, hd, hs, hrun, Result.andThen]
  simp only [List.length_map] at ho2
  have := h _ ho2 (only_setRow g w _)
  rw [Oper.upon_value]
  simpa using this

end Go.Proofs.YtlacidnnankjlaaGreatDoor

/-
  Words for memory that the walks of chapter 18 share: rows of the call's own, written over, grown, kept; blocks that are laid.
-/
namespace Go.Proofs.YtlacidnnankjlaaGreatDoor
open Go.RowKit

/-- a byte stored into a row of the call's own, no draw. -/
theorem own_set {w : World} {base g n cap : Nat} {xs : List UInt8} (hown : w.ownsRow base 5 1 (.slice (some ⟨g, 0, none⟩) n cap) n (xs.map bv)) (p : Nat) (y : UInt8) :
    (w.setCell ⟨g, p, none⟩ (.int .u8 (y.toNat : Int))).ownsRow base 5 1 (.slice (some ⟨g, 0, none⟩) n cap) n ((xs.set p y).map bv) := by
  have := hown.stored p (.int .u8 (y.toNat : Int))
  rw [← List.map_set] at this
  exact this.1
theorem own_setv {w : World} {base g n cap : Nat} {xs : List UInt8} (hown : w.ownsRow base 5 1 (.slice (some ⟨g, 0, none⟩) n cap) n (xs.map bv)) (p : Nat) (y : UInt8) {v : Value} (hv : v = .int .u8 (y.toNat : Int)) :
    (w.setCell ⟨g, p, none⟩ v).ownsRow base 5 1 (.slice (some ⟨g, 0, none⟩) n cap) n ((xs.set p y).map bv) := by
  subst hv
  exact own_set hown p y
theorem own_cell {w : World} {base g n cap : Nat} {xs : List UInt8} (hown : w.ownsRow base 5 1 (.slice (some ⟨g, 0, none⟩) n cap) n (xs.map bv)) (p : Nat) (hp : p < n) :
    ∃ x : UInt8, xs[p]? = some x ∧ w.cell? ⟨g, p, none⟩ = some (.int .u8 (x.toNat : Int)) ∧ w.frozen? ⟨g, p, none⟩ = false := by
  have hl : xs.length = n := by have := hown.1; simpa using this
  refine ⟨xs[p], List.getElem?_eq_getElem (by omega), ?_, hown.frozenAt p⟩
  rw [hown.cellAt p (by omega), List.getElem?_map, List.getElem?_eq_getElem (by omega)]
  rfl
/-- what is owned is read. -/
theorem own_read {w : World} {base g n cap : Nat} {xs : List UInt8} (hown : w.ownsRow base 5 1 (.slice (some ⟨g, 0, none⟩) n cap) n (xs.map bv)) : xs.length = n ∧ RB w w.heap.size (some ⟨g, 0, none⟩) xs := by
  have hl : xs.length = n := by have := hown.1; simpa using this
  subst hl
  exact ⟨rfl, RB.of_own hown⟩
theorem byte_hi (n : Nat) (hn : n ≤ 65535) : ((n : Int) / 256) = (((UInt8.ofNat (n / 256)).toNat : Nat) : Int) := by
  rw [UInt8.toNat_ofNat']
  omega
theorem byte_lo (n : Nat) : (n : Int) % 256 = (((UInt8.ofNat n).toNat : Nat) : Int) := by
  rw [UInt8.toNat_ofNat']
  omega
theorem cellB {B : Nat} {w w' : World} (hb : Below B w w') {b o : Nat} (h : b < B) : w'.cell? ⟨b, o, none⟩ = w.cell? ⟨b, o, none⟩ := hb.cell (p := ⟨b, o, none⟩) h
theorem frozB {B : Nat} {w w' : World} (hb : Below B w w') {b o : Nat} (h : b < B) : w'.frozen? ⟨b, o, none⟩ = w.frozen? ⟨b, o, none⟩ := hb.frozen (p := ⟨b, o, none⟩) h
theorem wrap_byte (x : UInt8) : IntKind.i64.wrap (x.toNat : Int) = (x.toNat : Int) := by
  have := x.toNat_lt
  exact IntWalk.i64_in _ (by omega)
theorem grown_setCell (w : World) (g o : Nat) (u : Value) : w.grownBy (w.setCell ⟨g, o, none⟩ u) (some g) :=
  ⟨rfl, rfl, rfl, by simp [World.setCell], fun k _ hne => by
    have hk : g ≠ k := fun e => hne (by rw [e])
    simp only [World.setCell]
    rw [Array.getElem?_modify]
    simp [hk]⟩
theorem RB.of_ownN {w : World} {base n c : Nat} {e : TypeId} {A : Option Addr} {xs : List UInt8} (h : w.ownsRow base e 1 (.slice A n c) n (xs.map bv)) : RB w w.heap.size A xs := by
  have hl : xs.length = n := by simpa using h.1
  subst hl
  exact RB.of_own h
/-- append(v, src...) of bytes, as one step of a region that draws. -/
theorem step_append_bytes {P : Program} {ops : Array Oper} {o : Oper} {a : Act} {w : World} {K : Act → World → Prop} {Q : Exit → Act → World → Prop} {E : Prop} (hgd : o.guard = none) (s x : Operand) (t : TypeId)
    (ho : o.op = .call { callee := .builtin .append, args := #[s, x], argTypes := #[t, t] })
    (base : Nat) (e : TypeId) (ht : P.underlying t = some (.slice e)) (hi : (P.info? e).map (fun i => (i.zero, i.size, i.bytes)) = some (some (.int .u8 0), 1, 1))
    (v : Value) (n : Nat) (xs : List UInt8) (hs : a.eval s = v) (hown : w.ownsRow base e 1 v n (xs.map bv)) (A : Option Addr) (m c : Nat) (ys : List UInt8) (hm : ys.length = m) (hx : a.eval x = .slice A m c) (hr : RB w w.heap.size A ys)
    (hn : n + m ≤ 140737488355328) (hbase : base ≤ w.heap.size)
    (h : ∀ A' c' w', w'.ownsRow base e 1 (.slice A' (n + m) c') (n + m) ((xs ++ ys).map bv) → Below base w w' → w.grownBy w' v.ownBlock → K (a.put o.dst (.slice A' (n + m) c')) w') :
    if Region.wanted o (yielded ops a.tmps) = true then Oper.wp P o a w K Q else E := by
  have hw : Region.wanted o (yielded ops a.tmps) = true := by simp [Region.wanted, hgd]
  rw [if_pos hw]
  subst hm
  obtain ⟨A', c', w', hrun, h2, h3⟩ := run_append_read (P := P) w base t o.type e (.int .u8 0) 1 1 ht hi rfl (by decide) v n (xs.map bv) hown w.heap.size A ys.length c (ys.map bv) hr (bv_one ys) (by unfold maxLen; omega) (by omega) hbase
  unfold Oper.wp execOp
  simp only [ho, resolve, invoke, builtin, Sem.run_bind, Sem.run_pure, Result.andThen_ok, List.map_toArray, List.map_cons, List.map_nil, hs, hx, hrun]
  exact h _ _ _ (by rw [List.map_append]; exact h2) ((Below.refl _ _).grown h3 hbase fun k hk => (hown.lt k hk).1) h3
theorem lt_alloc (w : World) (o : Obj) : w.heap.size < (w.alloc o).heap.size := by rw [World.size_alloc]; omega
theorem balloc (w : World) (o : Obj) : Below w.heap.size w (w.alloc o) := (Below.refl _ _).alloc (Nat.le_refl _) _
theorem own_ne {w : World} {base : Nat} {e : TypeId} {size : Nat} {v : Value} {n : Nat} {xs : List Value} (h : w.ownsRow base e size v n xs) {g : Nat} (hg : g < base ∨ w.heap.size ≤ g) : some g ≠ v.ownBlock := by
  intro e
  have := h.lt g e.symm
  omega
theorem copyN (xs : List UInt8) (n : Nat) (hl : xs.length = n) (A : Option Addr) (c : Nat) (w : World) (hx : RB w w.heap.size A xs) (hn : n ≤ 140737488351232) :
    Calls Tryz.prog 59 #[.slice A n c] w fun e w' => ∃ A' c', e = .returned (.slice A' n c') ∧ w'.ownsRow w.heap.size 5 1 (.slice A' n c') n (xs.map bv) ∧ Below w.heap.size w w' := by
  subst hl
  exact copyBytes xs A c w hx hn

theorem ofInt_i64 (a : Nat) (ha : a < 9223372036854775808) : (BitVec.ofInt 64 (a : Int)).toNat = a := by
  rw [BitVec.ofInt_natCast, BitVec.toNat_ofNat]; exact Nat.mod_eq_of_lt (by omega)
theorem i64_and_nat (a b : Nat) (ha : a < 9223372036854775808) (hb : b < 9223372036854775808) : bits .and .i64 (a : Int) (b : Int) = ((a &&& b : Nat) : Int) := by
  have hx : a &&& b < 2 ^ 63 := Nat.and_lt_two_pow _ (by omega)
  show IntKind.i64.wrap ((BitVec.ofInt 64 (a : Int) &&& BitVec.ofInt 64 (b : Int)).toNat : Int) = _
  rw [BitVec.toNat_and, ofInt_i64 a ha, ofInt_i64 b hb, IntKind.wrap_i64]
  omega
theorem i64_or_nat (a b : Nat) (ha : a < 9223372036854775808) (hb : b < 9223372036854775808) : bits .or .i64 (a : Int) (b : Int) = ((a ||| b : Nat) : Int) := by
  have hx : a ||| b < 2 ^ 63 := Nat.or_lt_two_pow (by omega) (by omega)
  show IntKind.i64.wrap ((BitVec.ofInt 64 (a : Int) ||| BitVec.ofInt 64 (b : Int)).toNat : Int) = _
  rw [BitVec.toNat_or, ofInt_i64 a ha, ofInt_i64 b hb, IntKind.wrap_i64]
  omega

set_option maxHeartbeats 400000 in
set_option maxRecDepth 100000 in
theorem clone (xs : List UInt8) (n : Nat) (hl : xs.length = n) (A : Option Addr) (c : Nat) (w : World) (hx : RB w w.heap.size A xs) (hn : n ≤ 140737488351232) :
    Calls Tryz.prog 80 #[.slice A n c] w fun e w' => ∃ A' c', e = .returned (.slice A' n c') ∧ w'.ownsRow w.heap.size 5 1 (.slice A' n c') n (xs.map bv) ∧ Below w.heap.size w w' := by
  have heq := fun w : World => Lib.run_eql_slice_nil (P := Tryz.prog) w 31 5 A n c 0 0 Tryz.underlying31
  rcases A with _ | ad
  · have h0 : n = 0 := by
      subst hl
      rcases Nat.eq_zero_or_pos xs.length with h | h
      · exact h
      · obtain ⟨_, h1, _⟩ := hx.2 h
        cases h1
    subst h0
    have hxs : xs = [] := List.eq_nil_of_length_eq_zero hl
    subst hxs
    go_enter Tryz.func80, Tryz.ntmps80
    go_wp2
    go_ret
    exact ⟨none, 0, rfl, World.ownsRow_nil _ _ _ _, Below.refl _ _⟩
  · simp only [Option.isNone_some] at heq
    have hmade : (w.alloc (.cells #[] 5)).ownsRow w.heap.size 5 1 (.slice (some ⟨w.heap.size, 0, none⟩) 0 0) 0 (([] : List UInt8).map bv) :=
      World.ownsRow_made w #[] 0 (Nat.le_refl _) (by decide) (by simp)
    have hrd : RB (w.alloc (.cells #[] 5)) (w.alloc (.cells #[] 5)).heap.size (some ad) xs := hx.next ((Below.refl _ _).alloc (Nat.le_refl _) _)
    have hbel : Below w.heap.size w (w.alloc (.cells #[] 5)) := (Below.refl _ _).alloc (Nat.le_refl _) _
    have HM := Lib.hid hmade
    have HR := Lib.hid hrd
    have HB := Lib.hid hbel
    have hl' := Lib.hid hl
    clear hmade hrd hbel hx hl
    go_enter Tryz.func80, Tryz.ntmps80
    go_wp2_with (at_builtin; refine wpList_append_bytes w.heap.size HB.out rfl _ _ 31 rfl w.heap.size 5 Tryz.underlying31 info_u8 _ _ [] (by exact rfl) HM.out (some ad) n c xs hl'.out (by exact rfl) HR.out (by omega) (by simp) (Nat.le_refl _) ?_; intro A' c' w' hown' hb')
    go_ret
    exact ⟨A', c', by simp only; rfl, by simpa using hown', hb'⟩

theorem bigI (k : Nat) (n : Nat) : ((n : Int) / 2 ^ (8 * k)) = ((n / 256 ^ k : Nat) : Int) := by
  rw [show (256 : Nat) ^ k = 2 ^ (8 * k) by rw [Nat.pow_mul]]
  simp

set_option maxRecDepth 100000 in
set_option maxHeartbeats 800000 in
theorem big_walk (vI kI : Int) (v k : Nat) (hve : vI = (v : Int)) (hke : kI = (k : Int)) (hk : k ≤ 7) (_hv : v < 9223372036854775808) (w : World) :
    Calls Tryz.prog 90 #[.int .i64 vI, .int .i64 kI] w fun e w' => ∃ A' c', e = .returned (.slice A' k c') ∧ w'.ownsRow w.heap.size 5 1 (.slice A' k c') k ((big k v).map bv) ∧ Below w.heap.size w w' := by
  subst hve hke
  go_enter Tryz.func90, Tryz.ntmps90
  go_wp2
  go_loopw [5, 6] (fun sv i wr => ∃ j : Nat, j ≤ k ∧ i = .int .i64 ((k : Int) - 1 - (j : Int)) ∧ wr.ownsRow w.heap.size 5 1 sv j (((big k v).take j).map bv) ∧ Below w.heap.size w wr)
    (fun _ i _ => (intOf i + 1).toNat)
  case atStart => exact ⟨0, Nat.zero_le _, by go_num, World.ownsRow_nil _ _ _ _, Below.refl _ _⟩
  case round =>
    obtain ⟨j, hj, rfl, hown, hb⟩ := hrel
    by_cases hlt : j < k
    · have HS : Hid (((big k v).take (j + 1)).map bv = ((big k v).take j).map bv ++ [.int .u8 (((UInt8.ofNat (v / 256 ^ (k - 1 - j))).toNat : Nat) : Int)]) := by
        rw [big_take_snoc k v j hlt, List.map_append]; rfl
      have hlt' : (j : Int) ≤ (k : Int) - 1 := by omega
      have EV : Hid ((v : Int) / 2 ^ (8 * (k - 1 - j)) % 256 = (((UInt8.ofNat (v / 256 ^ (k - 1 - j))).toNat : Nat) : Int)) := by
        unfold Hid
        rw [bigI, byte_shr]
      go_wp2_with (at_builtin; refine wpList_append1 w.heap.size hb rfl _ _ 31 rfl w.heap.size 5 (.int .u8 0) 1 Tryz.underlying31 info_u8 rfl _ _ _ (by exact rfl) hown (.int .u8 ((v : Int) / 2 ^ (8 * (k - 1 - j)) % 256)) (by exact rfl) rfl (by omega) (by unfold maxLen; omega) hb.size (Nat.le_refl _) ?_; intro A' c' w' hown' hb')
      go_roundw
      case rel => exact ⟨j + 1, by omega, by go_num, by rw [HS.out, ← EV.out]; exact hown', hb'⟩
      case measure => simp [intOf]; omega
    · obtain rfl : j = k := by omega
      obtain ⟨A', c', rfl, _, _⟩ := own_shape hown
      go_wp2
      go_ret
      exact ⟨A', c', rfl, by rw [List.take_of_length_le (by rw [big_length]; exact Nat.le_refl _)] at hown; exact hown, hb⟩

theorem or_shl (a : Nat) (x : UInt8) (ha : a < 36028797018963968) : bits .or .i64 ((a : Int) * 256) (x.toNat : Int) = ((a * 256 + x.toNat : Nat) : Int) := by
  have hx := x.toNat_lt
  have := i64_or_nat (a * 256) x.toNat (by omega) (by omega)
  rw [shift_or a x.toNat hx] at this
  rw [← this]
  simp

set_option maxHeartbeats 800000 in
set_option maxRecDepth 100000 in
theorem ofW (xs : List UInt8) (n : Nat) (hl : xs.length = n) (A : Option Addr) (c : Nat) (w : World) (hx : RB w w.heap.size A xs) (hn : n ≤ 7) :
    Calls Tryz.prog 107 #[.slice A n c] w fun e w' => e = .returned (.int .i64 ((ofB xs : Nat) : Int)) ∧ w = w' := by
  subst hl
  have hb : ∀ k, k ≤ xs.length → ofB (xs.take k) < 72057594037927936 := by
    intro k hk
    have h1 := ofB_lt (xs.take k)
    have h2 : (256 : Nat) ^ (xs.take k).length ≤ 256 ^ 7 := Nat.pow_le_pow_right (by omega) (by rw [List.length_take]; omega)
    omega
  have HB := Lib.hid hb
  clear hb
  go_enter Tryz.func107, Tryz.ntmps107
  go_wp2
  go_loop [3, 4] (fun sv i => ∃ k t : Nat, i = .int .i64 k ∧ sv = .int .i64 (t : Nat) ∧ k ≤ xs.length ∧ Hid (t = ofB (xs.take k))) (fun _ i => xs.length - (intOf i).toNat)
  case atStart => exact ⟨0, 0, rfl, rfl, Nat.zero_le _, rfl⟩
  case round =>
    obtain ⟨k, t, rfl, rfl, hk, ht⟩ := hrel
    by_cases hlt : k < xs.length
    · obtain ⟨b0, o0, u, rfl, hb, hu, hcell⟩ := hx.get hlt
      have hub : (u.toNat : Int) < 256 := by have := u.toNat_lt; omega
      have hs : ofB (xs.take (k + 1)) = t * 256 + u.toNat := by rw [take_snoc? xs k u hu, ofB_snoc, ht.out]
      have ht1 : t < 36028797018963968 := by
        have h1 := ofB_lt (xs.take k)
        have h2 : (256 : Nat) ^ (xs.take k).length ≤ 256 ^ 6 := Nat.pow_le_pow_right (by omega) (by rw [List.length_take]; omega)
        have h3 := ht.out
        omega
      have HO := Lib.hid (or_shl t u ht1)
      have HS := Lib.hid hs
      clear hu hs
      go_wp2
      go_round
      case rel => exact ⟨k + 1, t * 256 + u.toNat, by go_num, by rw [HO.out], by omega, HS.out.symm⟩
      case measure => simp [intOf]; omega
    · obtain rfl : k = xs.length := by omega
      have HE : Hid (ofB xs = t) := by rw [ht.out, List.take_length]; exact rfl
      go_wp2
      go_ret
      exact ⟨by rw [HE.out]; rfl, rfl⟩

end Go.Proofs.YtlacidnnankjlaaGreatDoor

/-
  CRC-32 in plain Lean, on natural numbers below 2^32: a step of one bit, of one byte, of bytes; it goes on over parts; what is turned in one byte, or in two that stand side by side, is seen.
-/
namespace Go.Proofs.YtlacidnnankjlaaGreatDoor.Crc

def step (s : Nat) : Nat := (s >>> 1) ^^^ (3988292384 * (s % 2))
/- a step is linear, and no two numbers below 2^32 go to one -/
end Go.Proofs.YtlacidnnankjlaaGreatDoor.Crc

/-
  A byte written over in a row of the call's own; what that does to the sum of chapter 5.
-/
namespace Go.Proofs.YtlacidnnankjlaaGreatDoor
open Go.RowKit

theorem split_at {α : Type} {xs : List α} {p : Nat} {x : α} (h : xs[p]? = some x) : xs = xs.take p ++ x :: xs.drop (p + 1) := by
  rw [← drop_get' xs p x h, List.take_append_drop]
theorem set_at {α : Type} {xs : List α} {p : Nat} {x : α} (h : xs[p]? = some x) (y : α) : xs.set p y = xs.take p ++ y :: xs.drop (p + 1) := by
  have hp : p < xs.length := by
    rcases Nat.lt_or_ge p xs.length with h1 | h1
    · exact h1
    · rw [List.getElem?_eq_none h1] at h; cases h
  rw [List.set_eq_take_append_cons_drop, if_pos hp]
theorem set_two {α : Type} {xs : List α} {p : Nat} {x x2 : α} (h : xs[p]? = some x) (h2 : xs[p + 1]? = some x2) (y y2 : α) :
    xs = xs.take p ++ x :: x2 :: xs.drop (p + 2) ∧ (xs.set p y).set (p + 1) y2 = xs.take p ++ y :: y2 :: xs.drop (p + 2) := by
  have e1 := drop_get' xs (p + 1) x2 h2
  have hp : p < xs.length := by
    rcases Nat.lt_or_ge p xs.length with h1 | h1
    · exact h1
    · rw [List.getElem?_eq_none h1] at h; cases h
  refine ⟨by rw [← e1]; exact split_at h, ?_⟩
  rw [set_at h y, e1]
  rw [List.set_append_right _ _ (by rw [List.length_take]; omega)]
  have : p + 1 - (xs.take p).length = 1 := by rw [List.length_take]; omega
  rw [this]
  rfl

end Go.Proofs.YtlacidnnankjlaaGreatDoor

/-
  What a byte that is written over does to the internet's sum.
-/
namespace Go.Proofs.YtlacidnnankjlaaGreatDoor.Sm
open Go.Proofs.YtlacidnnankjlaaGreatDoor

def wt (p : Nat) : Nat := if p % 2 = 0 then 256 else 1
theorem wt_add2 (p : Nat) : wt (p + 2) = wt p := by unfold wt; rw [Nat.add_mod_right]
theorem tot_set : ∀ (xs : List UInt8) (p : Nat) (x y : UInt8), xs[p]? = some x → tot (xs.set p y) + x.toNat * wt p = tot xs + y.toNat * wt p
  | [], p, x, y, h => by simp at h
  | [a], 0, x, y, h => by simp at h; subst h; simp [tot, wt]; omega
  | [a], p + 1, x, y, h => by simp at h
  | a :: b :: r, 0, x, y, h => by simp at h; subst h; simp [tot, wt]; omega
  | a :: b :: r, 1, x, y, h => by simp at h; subst h; simp [tot, wt]; omega
  | a :: b :: r, p + 2, x, y, h => by
    have := tot_set r p x y (by simpa using h)
    rw [wt_add2]
    simp only [List.set_cons_succ, tot]
    omega

/-- the sum in its place: all is 0. -/
theorem check_mend (xs : List UInt8) (p : Nat) (hp : p % 2 = 0) (hl : p + 1 < xs.length) (u v : UInt8)
    (hu : u.toNat = check ((xs.set p 0).set (p + 1) 0) / 256) (hv : v.toNat = check ((xs.set p 0).set (p + 1) 0) % 256) :
    check ((((xs.set p 0).set (p + 1) 0).set p u).set (p + 1) v) = 0 := by
  have hlen : ((xs.set p 0).set (p + 1) 0).length = xs.length := by simp
  have g0 : ((xs.set p 0).set (p + 1) 0)[p]? = some 0 := by
    rw [List.getElem?_set_ne (by omega), List.getElem?_set_self (by omega)]
  have g1 : (((xs.set p 0).set (p + 1) 0).set p u)[p + 1]? = some 0 := by
    rw [List.getElem?_set_ne (by omega), List.getElem?_set_self (by simp; omega)]
  have e1 := tot_set ((xs.set p 0).set (p + 1) 0) p 0 u g0
  have e2 := tot_set (((xs.set p 0).set (p + 1) 0).set p u) (p + 1) 0 v g1
  have w0 : wt p = 256 := by unfold wt; rw [if_pos hp]
  have w1 : wt (p + 1) = 1 := by unfold wt; rw [if_neg (by omega)]
  have z : (0 : UInt8).toNat = 0 := rfl
  rw [w0, z] at e1; rw [w1, z] at e2
  generalize (xs.set p 0).set (p + 1) 0 = ys at *
  have hc := check_le ys
  have hn : tot (((ys.set p u).set (p + 1) v)) = tot ys + check ys := by omega
  have hk : check ys = 65535 - fold (0 + tot ys) := rfl
  have hfl := fold_le (0 + tot ys)
  unfold check add
  rw [hn, hk]
  have : fold (0 + (tot ys + (65535 - fold (0 + tot ys)))) = 65535 := by
    rw [Nat.zero_add, Nat.zero_add] at *
    revert hfl
    unfold fold
    split
    · intro _; split <;> omega
    · intro _; split <;> omega
  rw [this]

end Go.Proofs.YtlacidnnankjlaaGreatDoor.Sm

/-
  Chapter 10 in plain Lean: a packet's bytes; what bytes are as a packet.
-/
namespace Go.Proofs.YtlacidnnankjlaaGreatDoor

/-- a packet's numbers and bytes. -/
structure Pk where
  s : Int
  d : Int
  p : Int
  t : Int
  i : Int
  xs : List UInt8
def inR (n most : Int) : Bool := decide (0 ≤ n) && decide (n ≤ most)
theorem inR_iff {n most : Int} : inR n most = true ↔ 0 ≤ n ∧ n ≤ most := by simp [inR]
def Pk.ok (q : Pk) : Bool := inR q.s 4294967295 && (inR q.d 4294967295 && (inR q.p 255 && (inR q.t 255 && (inR q.i 65535 && decide (q.xs.length ≤ 1480)))))
theorem Pk.ok_iff {q : Pk} : q.ok = true ↔ (0 ≤ q.s ∧ q.s ≤ 4294967295) ∧ (0 ≤ q.d ∧ q.d ≤ 4294967295) ∧ (0 ≤ q.p ∧ q.p ≤ 255) ∧ (0 ≤ q.t ∧ q.t ≤ 255) ∧ (0 ≤ q.i ∧ q.i ≤ 65535) ∧ q.xs.length ≤ 1480 := by
  simp only [Pk.ok, Bool.and_eq_true, inR_iff, decide_eq_true_eq]
def ipHead0 (s d p t i n : Nat) : List UInt8 :=
  [0x45, 0] ++ big 2 (20 + n) ++ big 2 i ++ [0x40, 0, UInt8.ofNat t, UInt8.ofNat p, 0, 0] ++ big 4 s ++ big 4 d
theorem ipHead0_length (s d p t i n : Nat) : (ipHead0 s d p t i n).length = 20 := by simp [ipHead0, big_length]
def ipHead (s d p t i n : Nat) : List UInt8 :=
  ((ipHead0 s d p t i n).set 10 (UInt8.ofNat (Sm.check (ipHead0 s d p t i n) / 256))).set (10 + 1) (UInt8.ofNat (Sm.check (ipHead0 s d p t i n)))
theorem ipHead_length (s d p t i n : Nat) : (ipHead s d p t i n).length = 20 := by simp [ipHead, ipHead0_length]
def Pk.bytes (q : Pk) : List UInt8 := ipHead q.s.toNat q.d.toNat q.p.toNat q.t.toNat q.i.toNat q.xs.length ++ q.xs
theorem Pk.bytes_length (q : Pk) : q.bytes.length = 20 + q.xs.length := by simp [Pk.bytes, ipHead_length]
def Pk.out (q : Pk) : List UInt8 × Int := if q.ok = true then (q.bytes, 0) else ([], 1)

def b8 (xs : List UInt8) (k : Nat) : Nat := (xs[k]?.getD 0).toNat
def num2 (xs : List UInt8) (k m : Nat) : Nat := ofB ((xs.drop k).take m)
def Pk.zero : Pk := ⟨0, 0, 0, 0, 0, []⟩
def ipN (xs : List UInt8) : Nat := 4 * (b8 xs 0 % 16)
def parsed (xs : List UInt8) : Pk := ⟨num2 xs 12 4, num2 xs 16 4, b8 xs 9, b8 xs 8, num2 xs 4 2, (xs.take (num2 xs 2 2)).drop (ipN xs)⟩
/-- the packet that bytes are, or what is wrong. -/
def parseOut (xs : List UInt8) : Pk × Int :=
  if xs.length < 20 then (.zero, 7)
  else if b8 xs 0 / 16 ≠ 4 ∨ ipN xs < 20 then (.zero, 1)
  else if xs.length < ipN xs then (.zero, 7)
  else if num2 xs 2 2 < ipN xs then (.zero, 1)
  else if xs.length < num2 xs 2 2 then (.zero, 7)
  else if Sm.check (xs.take (ipN xs)) ≠ 0 then (.zero, 8)
  else if num2 xs 6 2 % 16384 ≠ 0 then (.zero, 9)
  else (parsed xs, 0)

theorem ofB_big (k n : Nat) (h : n < 256 ^ k) : ofB (big k n) = n := by
  have : ∀ (k n v : Nat), (big k n).foldl (fun v x => v * 256 + x.toNat) v = v * 256 ^ k + n % 256 ^ k := by
    intro k
    induction k with
    | zero => intro n v; simp [big, Nat.mod_one]
    | succ k ih =>
      intro n v
      simp only [big, List.foldl_cons]
      rw [ih, UInt8.toNat_ofNat']
      have h1 : n % 256 ^ (k + 1) = 256 ^ k * (n / 256 ^ k % 256) + n % 256 ^ k := by
        rw [Nat.pow_succ, Nat.mod_mul]; omega
      rw [h1, show (256 : Nat) ^ (k + 1) = 256 ^ k * 256 from rfl]
      generalize 256 ^ k = P
      generalize n % P = r
      generalize n / P = u
      have h2 : u % 2 ^ 8 = u % 256 := rfl
      rw [h2, Nat.add_mul, Nat.mul_comm (u % 256) P, Nat.mul_assoc v, Nat.mul_comm 256 P, Nat.add_assoc]
  unfold ofB
  rw [this k n 0, Nat.mod_eq_of_lt h]
  omega

end Go.Proofs.YtlacidnnankjlaaGreatDoor

/-
  The walks of the sums of chapter 7.
-/
namespace Go.Proofs.YtlacidnnankjlaaGreatDoor
open Go.RowKit

theorem and_ffff (a : Nat) (ha : a < 9223372036854775808) : bits .and .i64 (a : Int) 65535 = ((a % 65536 : Nat) : Int) := by
  have := i64_and_nat a 65535 ha (by omega)
  rw [nat_mask16] at this
  exact this

theorem sum_one (t u : Nat) (k _n : Nat) (xs : List UInt8) (h : xs.length ≤ k + 1) (x : UInt8) (hx : xs[k]? = some x) (hu : x.toNat = u) (R : Nat) (hf : Sm.fold (t + Sm.tot (xs.drop k)) = R) (z : Nat) (hz : Sm.fold z = Sm.fold (t + u * 256)) (_hz2 : z ≤ 65535) :
    Sm.fold (z + Sm.tot (xs.drop (k + 2))) = R := by
  have hl : k < xs.length := by
    rcases Nat.lt_or_ge k xs.length with h1 | h1
    · exact h1
    · rw [List.getElem?_eq_none h1] at hx; cases hx
  have e : xs.drop k = [x] := by
    rw [List.drop_eq_getElem_cons hl, List.drop_eq_nil_of_le (by omega)]
    rw [List.getElem?_eq_getElem hl] at hx
    simp at hx; rw [hx]
  have e2 : xs.drop (k + 2) = [] := List.drop_eq_nil_of_le (by omega)
  rw [← hf, e, e2]
  simp only [Sm.tot, Nat.add_zero]
  rw [hz, hu]
theorem sum_two' (t : Nat) (k : Nat) (xs : List UInt8) (x y : UInt8) (hx : xs[k]? = some x) (hy : xs[k + 1]? = some y) (R : Nat) (hf : Sm.fold (t + Sm.tot (xs.drop k)) = R) (z : Nat) (hz : Sm.fold z = Sm.fold (t + x.toNat * 256 + y.toNat)) (_hz2 : z ≤ 65535) :
    Sm.fold (z + Sm.tot (xs.drop (k + 2))) = R := by
  have hl : k + 1 < xs.length := by
    rcases Nat.lt_or_ge (k + 1) xs.length with h1 | h1
    · exact h1
    · rw [List.getElem?_eq_none h1] at hy; cases hy
  have e : xs.drop k = x :: y :: xs.drop (k + 2) := by
    rw [List.drop_eq_getElem_cons (by omega), List.drop_eq_getElem_cons hl]
    rw [List.getElem?_eq_getElem (by omega)] at hx hy
    simp at hx hy; rw [hx, hy]
  rw [← hf, e]
  simp only [Sm.tot]
  have h1 := Sm.fold_add z (Sm.tot (xs.drop (k + 2)))
  have h2 := Sm.fold_add (t + x.toNat * 256 + y.toNat) (Sm.tot (xs.drop (k + 2)))
  rw [← h1, hz, h2]
  congr 1; omega

set_option maxRecDepth 100000 in
set_option maxHeartbeats 800000 in
theorem refAdd (s : Nat) (hs : s ≤ 65535) (xs : List UInt8) (A : Option Addr) (c : Nat) (w : World) (hx : RB w w.heap.size A xs) (hn : xs.length ≤ 1099511627776) :
    Calls Tryz.prog 91 #[.int .i64 (s : Nat), .slice A xs.length c] w fun e w' => e = .returned (.int .i64 ((Sm.add s xs : Nat) : Int)) ∧ w = w' := by
  have HF := Lib.hid (show Sm.fold (s + Sm.tot (xs.drop 0)) = Sm.add s xs from rfl)
  go_enter Tryz.func91, Tryz.ntmps91
  go_wp2
  go_loop [0, 5] (fun v i => ∃ (k t : Nat), i = .int .i64 k ∧ v = .int .i64 ((t : Nat) : Int) ∧ k ≤ xs.length + 1 ∧ t ≤ 65535 ∧ Hid (Sm.fold (t + Sm.tot (xs.drop k)) = Sm.add s xs)) (fun _ i => xs.length + 1 - (intOf i).toNat)
  case atStart => exact ⟨0, _, rfl, rfl, Nat.zero_le _, hs, HF⟩
  case round =>
    obtain ⟨k, t, rfl, rfl, hk, ht, hf⟩ := hrel
    by_cases hlt : k < xs.length
    · obtain ⟨b0, o0, u, rfl, hb, hu, hcell⟩ := hx.get hlt
      have hu8 := u.toNat_lt
      have hub : (u.toNat : Int) < 256 := by omega
      have hu' := Lib.hid hu
      clear hu hu8
      by_cases hlt2 : k + 1 < xs.length
      · obtain ⟨b1, o1, v, had, hb2, hv, hcell2⟩ := hx.get hlt2
        obtain ⟨rfl, rfl⟩ := RB.same_at rfl had
        have hv8 := v.toNat_lt
        have hvb : (v.toNat : Int) < 256 := by omega
        have hv' := Lib.hid hv
        have hlt2' : (k : Int) + 1 < (xs.length : Int) := by omega
        clear hv hv8
        go_wp2
        go_loop [0] (fun sv => ∃ z : Nat, sv = .int .i64 ((z : Nat) : Int) ∧ z ≤ 200000 ∧ Hid (Sm.fold z = Sm.fold (t + u.toNat * 256 + v.toNat))) (fun sv => (intOf sv).toNat)
        case atStart => exact ⟨t + u.toNat * 256 + v.toNat, by go_num, by omega, rfl⟩
        case round =>
          obtain ⟨z, rfl, hz, hzf⟩ := hrel
          by_cases hz6 : 65535 < z
          · have HA := Lib.hid (and_ffff z (by omega))
            have HZ : Hid (Sm.fold (z % 65536 + z / 65536) = Sm.fold (t + u.toNat * 256 + v.toNat)) := by rw [Sm.fold_step]; exact hzf.out
            go_wp2
            go_round
            case rel => exact ⟨z % 65536 + z / 65536, by rw [HA.out, IntWalk.wrap64_in _ ⟨by omega, by omega⟩]; go_num, by omega, HZ⟩
            case measure => rw [HA.out, IntWalk.wrap64_in _ ⟨by omega, by omega⟩]; simp [intOf]; omega
          · go_wp2
            go_round
            case rel => exact ⟨k + 2, z, by go_num, rfl, by omega, by omega, sum_two' t k xs u v hu'.out hv'.out _ hf.out z hzf.out (by omega)⟩
            case measure => simp [intOf]; omega
      · have hlt2' : ¬ (k : Int) + 1 < (xs.length : Int) := by omega
        go_wp2
        go_loop [0] (fun sv => ∃ z : Nat, sv = .int .i64 ((z : Nat) : Int) ∧ z ≤ 200000 ∧ Hid (Sm.fold z = Sm.fold (t + u.toNat * 256))) (fun sv => (intOf sv).toNat)
        case atStart => exact ⟨t + u.toNat * 256, by go_num, by omega, rfl⟩
        case round =>
          obtain ⟨z, rfl, hz, hzf⟩ := hrel
          by_cases hz6 : 65535 < z
          · have HA := Lib.hid (and_ffff z (by omega))
            have HZ : Hid (Sm.fold (z % 65536 + z / 65536) = Sm.fold (t + u.toNat * 256)) := by rw [Sm.fold_step]; exact hzf.out
            go_wp2
            go_round
            case rel => exact ⟨z % 65536 + z / 65536, by rw [HA.out, IntWalk.wrap64_in _ ⟨by omega, by omega⟩]; go_num, by omega, HZ⟩
            case measure => rw [HA.out, IntWalk.wrap64_in _ ⟨by omega, by omega⟩]; simp [intOf]; omega
          · go_wp2
            go_round
            case rel => exact ⟨k + 2, z, by go_num, rfl, by omega, by omega, sum_one t u.toNat k 0 xs (by omega) u hu'.out rfl _ hf.out z hzf.out (by omega)⟩
            case measure => simp [intOf]; omega
    · have he : Hid (Sm.add s xs = t) := by
        rw [← hf.out, List.drop_eq_nil_of_le (by omega)]
        exact Sm.fold_small (by simp only [Sm.tot]; omega)
      go_wp2
      go_ret
      exact ⟨by rw [he.out]; rfl, rfl⟩

def JSum (s : Nat) (xs : List UInt8) (A : Option Addr) (c : Nat) (w : World) (a' : Act) (w' : World) : Prop :=
  w' = w ∧ ∃ (k t : Nat) (v0 v5 u6 u7 u8 u9 u10 u11 u12 u13 u14 u15 u16 u17 u18 u19 u20 u21 u22 u23 u24 u25 u26 u27 u28 u29 u30 u31 u32 u33 u34 u35 u36 u37 u38 u39 u40 : Value), a' = { tmps := #[v0, .slice A xs.length c, undef, undef, .int .i64 0, v5, u6, u7, u8, u9, u10, u11, u12, u13, u14, u15, u16, u17, u18, u19, u20, u21, u22, u23, u24, u25, u26, u27, u28, u29, u30, u31, u32, u33, u34, u35, u36, u37, u38, u39, u40], defers := [] } ∧ v0 = .int .i64 ((t : Nat) : Int) ∧ v5 = .int .i64 (k : Nat) ∧ k ≤ xs.length + 1 ∧ t + Sm.tot (xs.drop k) = s + Sm.tot xs
def muSum (n : Nat) (a' : Act) : Nat := n + 1 - (intOf (a'.tmps.getD 5 undef)).toNat
theorem tot_one (k : Nat) (xs : List UInt8) (h : xs.length ≤ k + 1) (x : UInt8) (hx : xs[k]? = some x) : Sm.tot (xs.drop k) = x.toNat * 256 + Sm.tot (xs.drop (k + 2)) := by
  have e : xs.drop k = [x] := by
    rw [drop_get' xs k x hx, List.drop_eq_nil_of_le (by omega)]
  rw [e, List.drop_eq_nil_of_le (by omega)]
  simp [Sm.tot]
theorem tot_two (k : Nat) (xs : List UInt8) (x y : UInt8) (hx : xs[k]? = some x) (hy : xs[k + 1]? = some y) : Sm.tot (xs.drop k) = x.toNat * 256 + y.toNat + Sm.tot (xs.drop (k + 2)) := by
  rw [drop_get' xs k x hx, drop_get' xs (k + 1) y hy]
  simp [Sm.tot]

set_option maxRecDepth 100000 in
set_option maxHeartbeats 1600000 in
theorem sumAdd (s : Nat) (hs : s ≤ 65535) (xs : List UInt8) (A : Option Addr) (c : Nat) (w : World) (hx : RB w w.heap.size A xs) (hn : xs.length ≤ 1099511627776) :
    Calls Tryz.prog 134 #[.int .i64 (s : Nat), .slice A xs.length c] w fun e w' => e = .returned (.int .i64 ((Sm.add s xs : Nat) : Int)) ∧ w = w' := by
  have htot := Sm.tot_le xs
  have hbig : s + Sm.tot xs ≤ 72057594038000000 := by omega
  have H0 := Lib.hid (show 0 + Sm.tot (xs.drop 0) + s = s + Sm.tot xs from by simp [Nat.add_comm])
  go_enter Tryz.func134, Tryz.ntmps134
  go_wp2
  refine wp_scope_jumps 0 (JSum s xs A c w) (fun a' _ => muSum xs.length a') rfl ?_ ?_
  · go_wp2
    go_step3
    by_cases hlt : 0 < xs.length
    · obtain ⟨b0, o0, u, rfl, hb, hu, hcell⟩ := hx.get hlt
      have hub : (u.toNat : Int) < 256 := by have := u.toNat_lt; omega
      have hu' := Lib.hid hu
      clear hu
      by_cases hlt2 : 0 + 1 < xs.length
      · obtain ⟨b1, o1, v, had, hb2, hv, hcell2⟩ := hx.get hlt2
        obtain ⟨rfl, rfl⟩ := RB.same_at rfl had
        have hvb : (v.toNat : Int) < 256 := by have := v.toNat_lt; omega
        have hT := Lib.hid (tot_two 0 xs u v hu'.out hv)
        clear hv
        have hlt2' : (1 : Int) < (xs.length : Int) := by omega
        simp only [Nat.zero_add, Nat.add_zero] at hcell hcell2
        go_wp2
        go_step3
        exact ⟨rfl, rfl, 2, s + u.toNat * 256 + v.toNat, _, _, _, _, _, _, _, _, _, _, _, _, _, _, _, _, _, _, _, _, _, _, _, _, _, _, _, _, _, _, _, _, _, _, _, _, _, rfl, by go_num, rfl, by omega, by have h := hT.out; simp only [List.drop_zero, Nat.zero_add] at h ⊢; omega⟩
      · have hT := Lib.hid (tot_one 0 xs (by omega) u hu'.out)
        have hlt2' : ¬ (1 : Int) < (xs.length : Int) := by omega
        simp only [Nat.add_zero] at hcell
        go_wp2
        go_step3
        exact ⟨rfl, rfl, 2, s + u.toNat * 256, _, _, _, _, _, _, _, _, _, _, _, _, _, _, _, _, _, _, _, _, _, _, _, _, _, _, _, _, _, _, _, _, _, _, _, _, _, rfl, by go_num, rfl, by omega, by have h := hT.out; simp only [List.drop_zero, Nat.zero_add] at h ⊢; omega⟩
    · have HT : Hid (Sm.fold s = Sm.add s xs) := by
        rw [List.eq_nil_of_length_eq_zero (by omega : xs.length = 0)]; rfl
      · go_wp2
        go_loop [0] (fun sv => ∃ z : Nat, sv = .int .i64 ((z : Nat) : Int) ∧ z ≤ 72057594038000000 ∧ Hid (Sm.fold z = Sm.add s xs)) (fun sv => (intOf sv).toNat)
        case atStart => exact ⟨s, by go_num, by omega, HT⟩
        case round =>
          obtain ⟨z, rfl, hz, hzf⟩ := hrel
          by_cases hz6 : 65535 < z
          · have HA := Lib.hid (and_ffff z (by omega))
            have HZ : Hid (Sm.fold (z % 65536 + z / 65536) = Sm.add s xs) := by rw [Sm.fold_step]; exact hzf.out
            go_wp2
            go_round
            case rel => exact ⟨z % 65536 + z / 65536, by rw [HA.out, IntWalk.wrap64_in _ ⟨by omega, by omega⟩]; go_num, by omega, HZ⟩
            case measure => rw [HA.out, IntWalk.wrap64_in _ ⟨by omega, by omega⟩]; simp [intOf]; omega
          · have HE : Hid (Sm.add s xs = z) := by rw [← hzf.out, Sm.fold_small (by omega)]; exact rfl
            go_wp2
            simp only [Exit.jump]
            go_ret
            exact ⟨by rw [HE.out]; rfl, rfl⟩

  · rintro a' w' ⟨rfl, k, t, v0, v5, u6, u7, u8, u9, u10, u11, u12, u13, u14, u15, u16, u17, u18, u19, u20, u21, u22, u23, u24, u25, u26, u27, u28, u29, u30, u31, u32, u33, u34, u35, u36, u37, u38, u39, u40, rfl, rfl, rfl, hk, hf⟩
    have hf' := Lib.hid hf
    have ht : t ≤ 72057594038000000 := by omega
    clear hf htot hbig
    by_cases hlt : k < xs.length
    · obtain ⟨b0, o0, u, rfl, hb, hu, hcell⟩ := hx.get hlt
      have hub : (u.toNat : Int) < 256 := by have := u.toNat_lt; omega
      have hu' := Lib.hid hu
      clear hu
      by_cases hlt2 : k + 1 < xs.length
      · obtain ⟨b1, o1, v, had, hb2, hv, hcell2⟩ := hx.get hlt2
        obtain ⟨rfl, rfl⟩ := RB.same_at rfl had
        have hvb : (v.toNat : Int) < 256 := by have := v.toNat_lt; omega
        have hT := Lib.hid (tot_two k xs u v hu'.out hv)
        clear hv
        have hlt2' : (k : Int) + 1 < (xs.length : Int) := by omega
        go_wp2
        go_step3
        exact ⟨rfl, ⟨rfl, k + 2, t + u.toNat * 256 + v.toNat, _, _, _, _, _, _, _, _, _, _, _, _, _, _, _, _, _, _, _, _, _, _, _, _, _, _, _, _, _, _, _, _, _, _, _, _, _, rfl, by go_num, by go_num, by omega, by have h := hT.out; have h2 := hf'.out; omega⟩, by simp [muSum, intOf]; omega⟩
      · have hT := Lib.hid (tot_one k xs (by omega) u hu'.out)
        have hlt2' : ¬ (k : Int) + 1 < (xs.length : Int) := by omega
        go_wp2
        go_step3
        exact ⟨rfl, ⟨rfl, k + 2, t + u.toNat * 256, _, _, _, _, _, _, _, _, _, _, _, _, _, _, _, _, _, _, _, _, _, _, _, _, _, _, _, _, _, _, _, _, _, _, _, _, _, rfl, by go_num, by go_num, by omega, by have h := hT.out; have h2 := hf'.out; omega⟩, by simp [muSum, intOf]; omega⟩
    · have HT : Hid (Sm.fold t = Sm.add s xs) := by
        have h := hf'.out
        rw [List.drop_eq_nil_of_le (by omega)] at h
        unfold Sm.add
        rw [← h]; rfl
      · go_wp2
        go_loop [0] (fun sv => ∃ z : Nat, sv = .int .i64 ((z : Nat) : Int) ∧ z ≤ 72057594038000000 ∧ Hid (Sm.fold z = Sm.add s xs)) (fun sv => (intOf sv).toNat)
        case atStart => exact ⟨t, by go_num, by omega, HT⟩
        case round =>
          obtain ⟨z, rfl, hz, hzf⟩ := hrel
          by_cases hz6 : 65535 < z
          · have HA := Lib.hid (and_ffff z (by omega))
            have HZ : Hid (Sm.fold (z % 65536 + z / 65536) = Sm.add s xs) := by rw [Sm.fold_step]; exact hzf.out
            go_wp2
            go_round
            case rel => exact ⟨z % 65536 + z / 65536, by rw [HA.out, IntWalk.wrap64_in _ ⟨by omega, by omega⟩]; go_num, by omega, HZ⟩
            case measure => rw [HA.out, IntWalk.wrap64_in _ ⟨by omega, by omega⟩]; simp [intOf]; omega
          · have HE : Hid (Sm.add s xs = z) := by rw [← hzf.out, Sm.fold_small (by omega)]; exact rfl
            go_wp2
            simp only [Exit.jump]
            go_ret
            exact ⟨by rw [HE.out]; rfl, rfl⟩


theorem check_int (xs : List UInt8) : (65535 : Int) - ((Sm.add 0 xs : Nat) : Int) = ((Sm.check xs : Nat) : Int) := by
  have := Sm.add_le 0 xs
  unfold Sm.check
  omega

set_option maxHeartbeats 400000 in
theorem sumCheck (xs : List UInt8) (n : Nat) (hl : xs.length = n) (A : Option Addr) (c : Nat) (w : World) (hx : RB w w.heap.size A xs) (hn : n ≤ 1099511627776) :
    Calls Tryz.prog 115 #[.slice A n c] w fun e w' => e = .returned (.int .i64 ((Sm.check xs : Nat) : Int)) ∧ w = w' := by
  subst hl
  have h1 := Sm.add_le 0 xs
  have HC := Lib.hid (check_int xs)
  have K := Lib.hid (sumAdd 0 (by omega) xs A c w hx hn)
  go_enter Tryz.func115, Tryz.ntmps115
  go_wp2_with fail
  (refine K.out.mono ?_)
  rintro e w' ⟨rfl, rfl⟩
  go_wp2
  go_ret
  exact ⟨by rw [← HC.out]; rfl, rfl⟩

set_option maxHeartbeats 400000 in
theorem refCheck (xs : List UInt8) (n : Nat) (hl : xs.length = n) (A : Option Addr) (c : Nat) (w : World) (hx : RB w w.heap.size A xs) (hn : n ≤ 1099511627776) :
    Calls Tryz.prog 93 #[.slice A n c] w fun e w' => e = .returned (.int .i64 ((Sm.check xs : Nat) : Int)) ∧ w = w' := by
  subst hl
  have h1 := Sm.add_le 0 xs
  have HC := Lib.hid (check_int xs)
  have K := Lib.hid (refAdd 0 (by omega) xs A c w hx hn)
  go_enter Tryz.func93, Tryz.ntmps93
  go_wp2_with fail
  (refine K.out.mono ?_)
  rintro e w' ⟨rfl, rfl⟩
  go_wp2
  go_ret
  exact ⟨by rw [← HC.out]; rfl, rfl⟩

end Go.Proofs.YtlacidnnankjlaaGreatDoor

/-
  The walks of the small functions over bytes: slices.Clone, sum.Set, Big, sum.Put, sum.Get, Of, kiosklaw0.Bytes.
-/
namespace Go.Proofs.YtlacidnnankjlaaGreatDoor
open Go.RowKit

set_option maxHeartbeats 400000 in
set_option maxRecDepth 100000 in
/-- sum.Set: two bytes of a row of the call's own are written over. -/
theorem sumSet (g n cap base : Nat) (xs : List UInt8) (pI vI : Int) (p v : Nat) (hpe : pI = (p : Int)) (hve : vI = (v : Int)) (w : World) (hown : w.ownsRow base 5 1 (.slice (some ⟨g, 0, none⟩) n cap) n (xs.map bv)) (hp : p + 1 < n) (hv : v ≤ 65535) (hn : n ≤ 140737488351232) :
    Calls Tryz.prog 112 #[.slice (some ⟨g, 0, none⟩) n cap, .int .i64 pI, .int .i64 vI] w fun e w' => e = .returned (.tuple #[]) ∧
      w'.ownsRow base 5 1 (.slice (some ⟨g, 0, none⟩) n cap) n (((xs.set p (UInt8.ofNat (v / 256))).set (p + 1) (UInt8.ofNat v)).map bv) ∧ Only g w w' := by
  subst hpe hve
  obtain ⟨y2, _, f2, z2⟩ := own_cell hown p (by omega)
  obtain ⟨y3, _, f3, z3⟩ := own_cell hown (p + 1) (by omega)
  have HO6 := Lib.hid (own_setv (own_setv hown p (UInt8.ofNat (v / 256)) (congrArg _ (byte_hi v hv))) (p + 1) (UInt8.ofNat v) (congrArg _ (byte_lo v)))
  have O6 := Lib.hid (((Only.refl g w).set p (.int .u8 ((v : Int) / 256))).set (p + 1) (.int .u8 ((v : Int) % 256)))
  have hpI : (p : Int) < (n : Int) := by omega
  have hpI2 : (p : Int) + 1 < (n : Int) := by omega
  have hpN : 0 < n := by omega
  clear hown
  go_enter Tryz.func112, Tryz.ntmps112
  go_wp2
  go_end0
  exact ⟨rfl, HO6.out, O6.out⟩

set_option maxRecDepth 100000 in
set_option maxHeartbeats 800000 in
set_option maxRecDepth 100000 in
/-- sum.Put: a number's bytes behind those of a row of the call's own. -/
theorem sumPut (B base : Nat) (w0 : World) (xs : List UInt8) (m : Nat) (hm : xs.length = m) (A : Option Addr) (c : Nat) (kI vI : Int) (k v : Nat) (hke : kI = (k : Int)) (hve : vI = (v : Int)) (hk : k ≤ 7) (_hv : v < 9223372036854775808) (w : World)
    (hown : w.ownsRow base 5 1 (.slice A m c) m (xs.map bv)) (hb0 : Below B w0 w) (hB : B ≤ base) (hbase : base ≤ w.heap.size) (hn : m ≤ 140737488351232) :
    Calls Tryz.prog 111 #[.slice A m c, .int .i64 kI, .int .i64 vI] w fun e w' => ∃ A' c', e = .returned (.slice A' (m + k) c') ∧ w'.ownsRow base 5 1 (.slice A' (m + k) c') (m + k) ((xs ++ big k v).map bv) ∧ Below B w0 w' ∧ base ≤ w'.heap.size := by
  subst hke hve
  have hs0 : ((xs ++ (big k v).take 0).map bv) = xs.map bv := by simp
  have HS0 := Lib.hid hs0
  have hm' := Lib.hid hm
  have HO := Lib.hid hown
  clear hs0 hm hown
  go_enter Tryz.func111, Tryz.ntmps111
  go_wp2
  go_loopw [0, 7] (fun sv i wr => ∃ j : Nat, j ≤ k ∧ i = .int .i64 ((k : Int) - 1 - (j : Int)) ∧ wr.ownsRow base 5 1 sv (m + j) ((xs ++ (big k v).take j).map bv) ∧ Below B w0 wr ∧ base ≤ wr.heap.size)
    (fun _ i _ => (intOf i + 1).toNat)
  case atStart => exact ⟨0, Nat.zero_le _, by go_num, by rw [HS0.out]; exact HO.out, hb0, hbase⟩
  case round =>
    obtain ⟨j, hj, rfl, hown, hb, hbs⟩ := hrel
    by_cases hlt : j < k
    · have HS : Hid ((xs ++ (big k v).take (j + 1)).map bv = (xs ++ (big k v).take j).map bv ++ [.int .u8 (((UInt8.ofNat (v / 256 ^ (k - 1 - j))).toNat : Nat) : Int)]) := by
        rw [big_take_snoc k v j hlt, ← List.append_assoc, List.map_append]; rfl
      have hlt' : (j : Int) ≤ (k : Int) - 1 := by omega
      have EV : Hid ((v : Int) / 2 ^ (8 * (k - 1 - j)) % 256 = (((UInt8.ofNat (v / 256 ^ (k - 1 - j))).toNat : Nat) : Int)) := by
        unfold Hid
        rw [bigI, byte_shr]
      obtain ⟨A1, c1, rfl, _, _⟩ := own_shape hown
      go_wp2_with (at_builtin; refine wpList_append1 B hb rfl _ _ 31 rfl base 5 (.int .u8 0) 1 Tryz.underlying31 info_u8 rfl _ _ _ (by exact rfl) hown (.int .u8 ((v : Int) / 2 ^ (8 * (k - 1 - j)) % 256)) (by exact rfl) rfl (by omega) (by unfold maxLen; omega) hbs hB ?_; intro A' c' w' hown' hb')
      go_roundw
      case rel => exact ⟨j + 1, by omega, by go_num, by rw [HS.out, ← EV.out]; exact hown', hb', by obtain ⟨g, _, _, h1, h2⟩ := hown'.form (by omega); omega⟩
      case measure => simp [intOf]; omega
    · obtain rfl : j = k := by omega
      obtain ⟨A', c', rfl, _, _⟩ := own_shape hown
      go_wp2
      go_ret
      exact ⟨A', c', rfl, by rw [List.take_of_length_le (by rw [big_length]; exact Nat.le_refl _)] at hown; exact hown, hb, hbs⟩

set_option maxHeartbeats 800000 in
set_option maxRecDepth 100000 in
theorem sumGet (xs : List UInt8) (n : Nat) (hl : xs.length = n) (A : Option Addr) (c : Nat) (w : World) (hx : RB w w.heap.size A xs) (hn : n ≤ 7) :
    Calls Tryz.prog 117 #[.slice A n c] w fun e w' => e = .returned (.int .i64 ((ofB xs : Nat) : Int)) ∧ w = w' := by
  subst hl
  go_enter Tryz.func117, Tryz.ntmps117
  go_wp2
  go_loop [2, 7] (fun sv i => ∃ k t : Nat, i = .int .i64 k ∧ sv = .int .i64 (t : Nat) ∧ k ≤ xs.length ∧ Hid (t = ofB (xs.take k))) (fun _ i => xs.length - (intOf i).toNat)
  case atStart => exact ⟨0, 0, rfl, rfl, Nat.zero_le _, rfl⟩
  case round =>
    obtain ⟨k, t, rfl, rfl, hk, ht⟩ := hrel
    by_cases hlt : k < xs.length
    · obtain ⟨b0, o0, u, rfl, hb, hu, hcell⟩ := hx.get hlt
      have hub : (u.toNat : Int) < 256 := by have := u.toNat_lt; omega
      have hs : ofB (xs.take (k + 1)) = t * 256 + u.toNat := by rw [take_snoc? xs k u hu, ofB_snoc, ht.out]
      have ht1 : t < 36028797018963968 := by
        have h1 := ofB_lt (xs.take k)
        have h2 : (256 : Nat) ^ (xs.take k).length ≤ 256 ^ 6 := Nat.pow_le_pow_right (by omega) (by rw [List.length_take]; omega)
        have h3 := ht.out
        omega
      have HO := Lib.hid (or_shl t u ht1)
      have HS := Lib.hid hs
      clear hu hs
      go_wp2
      go_round
      case rel => exact ⟨k + 1, t * 256 + u.toNat, by go_num, by rw [HO.out], by omega, HS.out.symm⟩
      case measure => simp [intOf]; omega
    · obtain rfl : k = xs.length := by omega
      have HE : Hid (ofB xs = t) := by rw [ht.out, List.take_length]; exact rfl
      go_wp2
      go_ret
      exact ⟨by rw [HE.out]; rfl, rfl⟩

end Go.Proofs.YtlacidnnankjlaaGreatDoor

/-
  A scope with a label that is jumped to forward alone.
-/
namespace Go.Proofs.YtlacidnnankjlaaGreatDoor

theorem wp_scope_fwd {P : Program} {a : Act} {w : World} {Q : Exit → Act → World → Prop} {c rest : Code} (l : Nat) (hf : findLabel c l = some rest)
    (first : c.wp P (Exit.jump l (fun a' w' => rest.wp P (Exit.jump l (fun _ _ => False) Q) a' w') Q) a w) : (Code.scope c).wp P Q a w := by
  refine wp_scope_jumps l (fun a' w' => rest.wp P (Exit.jump l (fun _ _ => False) Q) a' w') (fun _ _ => 0) hf first ?_
  intro a' w' h
  refine Code.wp_mono ?_ h
  intro e a2 w2 h2
  cases e with
  | goto l' => exact ⟨h2.1, h2.2.elim⟩
  | normal => exact h2
  | exit id => exact h2
  | ret => exact h2
  | panic ch => exact h2
  | outgrown => exact h2

end Go.Proofs.YtlacidnnankjlaaGreatDoor

/-
  The walks of the two replies of chapter 11.
-/
namespace Go.Proofs.YtlacidnnankjlaaGreatDoor
open Go.RowKit

end Go.Proofs.YtlacidnnankjlaaGreatDoor

/-
  What the answer of chapter 11 is good for, in plain Lean.
-/
namespace Go.Proofs.YtlacidnnankjlaaGreatDoor

theorem set_self' {xs : List UInt8} {p : Nat} {x : UInt8} (h : xs[p]? = some x) : xs.set p x = xs := by
  apply List.ext_getElem?
  intro i
  by_cases hi : i = p
  · subst hi
    have hp : i < xs.length := by
      rcases Nat.lt_or_ge i xs.length with h1 | h1
      · exact h1
      · rw [List.getElem?_eq_none h1] at h; cases h
    rw [List.getElem?_set_self hp, h]
  · rw [List.getElem?_set_ne (fun e => hi e.symm)]
end Go.Proofs.YtlacidnnankjlaaGreatDoor

/-
  What chapter 10's bytes are good for, in plain Lean: read back; cut off; a turned bit of the head.
-/
namespace Go.Proofs.YtlacidnnankjlaaGreatDoor

theorem check_put_at (qs : List UInt8) (p : Nat) (hp : p % 2 = 0) (h : p + 1 < qs.length) (h2 : qs[p]? = some 0) (h3 : qs[p + 1]? = some 0) :
    Sm.check ((qs.set p (UInt8.ofNat (Sm.check qs / 256))).set (p + 1) (UInt8.ofNat (Sm.check qs))) = 0 := by
  have e2 : (qs.set p 0).set (p + 1) 0 = qs := by rw [set_self' h2, set_self' h3]
  have hc := Sm.check_le qs
  have := Sm.check_mend qs p hp h (UInt8.ofNat (Sm.check qs / 256)) (UInt8.ofNat (Sm.check qs)) (by rw [e2, UInt8.toNat_ofNat']; omega) (by rw [e2, UInt8.toNat_ofNat'])
  rw [e2] at this
  exact this
theorem ipHead_check (s d p t i n : Nat) : Sm.check (ipHead s d p t i n) = 0 :=
  check_put_at (ipHead0 s d p t i n) 10 rfl (by rw [ipHead0_length]; omega) rfl rfl
theorem take_head (s d p t i n : Nat) (ys : List UInt8) : (ipHead s d p t i n ++ ys).take 20 = ipHead s d p t i n := by
  have := ipHead_length s d p t i n
  rw [List.take_append_of_le_length (by omega), List.take_of_length_le (by omega)]

section
variable (s d p t i n : Nat) (ys : List UInt8)
theorem hd_0 : b8 (ipHead s d p t i n ++ ys) 0 = 69 := rfl
theorem hd_N : ipN (ipHead s d p t i n ++ ys) = 20 := by unfold ipN; rw [hd_0]
theorem hd_len (h : 20 + n < 65536) : num2 (ipHead s d p t i n ++ ys) 2 2 = 20 + n := ofB_big 2 (20 + n) (by simpa using h)
theorem hd_id (h : i < 65536) : num2 (ipHead s d p t i n ++ ys) 4 2 = i := ofB_big 2 i (by simpa using h)
theorem hd_frag : num2 (ipHead s d p t i n ++ ys) 6 2 = 16384 := rfl
theorem hd_t (h : t < 256) : b8 (ipHead s d p t i n ++ ys) 8 = t := by
  show (UInt8.ofNat t).toNat = t
  rw [UInt8.toNat_ofNat']; omega
theorem hd_p (h : p < 256) : b8 (ipHead s d p t i n ++ ys) 9 = p := by
  show (UInt8.ofNat p).toNat = p
  rw [UInt8.toNat_ofNat']; omega
theorem hd_s (h : s < 4294967296) : num2 (ipHead s d p t i n ++ ys) 12 4 = s := ofB_big 4 s (by simpa using h)
theorem hd_d (h : d < 4294967296) : num2 (ipHead s d p t i n ++ ys) 16 4 = d := ofB_big 4 d (by simpa using h)
end

theorem parse_back (q : Pk) (h : q.ok = true) (ys : List UInt8) : parseOut (q.bytes ++ ys) = (q, 0) := by
  obtain ⟨⟨h1, h2⟩, ⟨h3, h4⟩, ⟨h5, h6⟩, ⟨h7, h8⟩, ⟨h9, h10⟩, h11⟩ := Pk.ok_iff.1 h
  obtain ⟨s, d, p, t, i, xs⟩ := q
  simp only at h1 h2 h3 h4 h5 h6 h7 h8 h9 h10 h11
  obtain ⟨s, rfl⟩ := Int.eq_ofNat_of_zero_le h1
  obtain ⟨d, rfl⟩ := Int.eq_ofNat_of_zero_le h3
  obtain ⟨p, rfl⟩ := Int.eq_ofNat_of_zero_le h5
  obtain ⟨t, rfl⟩ := Int.eq_ofNat_of_zero_le h7
  obtain ⟨i, rfl⟩ := Int.eq_ofNat_of_zero_le h9
  have hb : (Pk.mk s d p t i xs).bytes ++ ys = ipHead s d p t i xs.length ++ (xs ++ ys) := by simp [Pk.bytes]
  rw [hb]
  have e1 := hd_0 s d p t i xs.length (xs ++ ys)
  have e2 := hd_N s d p t i xs.length (xs ++ ys)
  have e3 := hd_len s d p t i xs.length (xs ++ ys) (by omega)
  have e4 := hd_id s d p t i xs.length (xs ++ ys) (by omega)
  have e5 := hd_frag s d p t i xs.length (xs ++ ys)
  have e6 := hd_t s d p t i xs.length (xs ++ ys) (by omega)
  have e7 := hd_p s d p t i xs.length (xs ++ ys) (by omega)
  have e8 := hd_s s d p t i xs.length (xs ++ ys) (by omega)
  have e9 := hd_d s d p t i xs.length (xs ++ ys) (by omega)
  have hl : (ipHead s d p t i xs.length ++ (xs ++ ys)).length = 20 + xs.length + ys.length := by simp [ipHead_length]; omega
  have hx : ((ipHead s d p t i xs.length ++ (xs ++ ys)).take (20 + xs.length)).drop 20 = xs := by
    have := ipHead_length s d p t i xs.length
    rw [List.drop_take, List.drop_append_of_le_length (by omega), List.drop_of_length_le (by omega)]
    simp
  unfold parseOut
  rw [e1, e2, e3, e5, hl, take_head, ipHead_check, if_neg (by omega), if_neg (by omega), if_neg (by omega), if_neg (by omega), if_neg (by omega), if_neg (by omega), if_neg (by omega)]
  unfold parsed
  rw [e2, e3, e4, e6, e7, e8, e9, hx]

theorem parse_cut (q : Pk) (h : q.ok = true) (k : Nat) (hk : k < 20 + q.xs.length) : parseOut (q.bytes.take k) = (Pk.zero, 7) := by
  have h11 := (Pk.ok_iff.1 h).2.2.2.2.2
  obtain ⟨s, d, p, t, i, xs⟩ := q
  simp only at h11 hk
  have hbl := Pk.bytes_length ⟨s, d, p, t, i, xs⟩
  by_cases h20 : k < 20
  · unfold parseOut
    rw [if_pos (by rw [List.length_take]; omega)]
  · have he : (Pk.mk s d p t i xs).bytes.take k = ipHead s.toNat d.toNat p.toNat t.toNat i.toNat xs.length ++ xs.take (k - 20) := by
      unfold Pk.bytes
      rw [List.take_append, ipHead_length, List.take_of_length_le (by rw [ipHead_length]; omega)]
    rw [he]
    have e1 := hd_0 s.toNat d.toNat p.toNat t.toNat i.toNat xs.length (xs.take (k - 20))
    have e2 := hd_N s.toNat d.toNat p.toNat t.toNat i.toNat xs.length (xs.take (k - 20))
    have e3 := hd_len s.toNat d.toNat p.toNat t.toNat i.toNat xs.length (xs.take (k - 20)) (by omega)
    have hl : (ipHead s.toNat d.toNat p.toNat t.toNat i.toNat xs.length ++ xs.take (k - 20)).length = k := by
      rw [List.length_append, ipHead_length, List.length_take]; omega
    unfold parseOut
    rw [e1, e2, e3, hl, if_neg (by omega), if_neg (by omega), if_neg (by omega), if_neg (by omega), if_pos (by omega)]

end Go.Proofs.YtlacidnnankjlaaGreatDoor

/-
  Chapter 13 in plain Lean: a segment's bytes between two addresses; what bytes are as a segment; there and back; turned bits.
-/
namespace Go.Proofs.YtlacidnnankjlaaGreatDoor

/-- a segment's numbers and bytes. -/
structure Sg where
  sp : Int
  dp : Int
  sq : Int
  ak : Int
  fl : Int
  wn : Int
  xs : List UInt8
def Sg.ok (q : Sg) : Bool := inR q.sp 65535 && (inR q.dp 65535 && (inR q.sq 4294967295 && (inR q.ak 4294967295 && (inR q.fl 63 && (inR q.wn 65535 && decide (q.xs.length ≤ 1460))))))
theorem Sg.ok_iff {q : Sg} : q.ok = true ↔ (0 ≤ q.sp ∧ q.sp ≤ 65535) ∧ (0 ≤ q.dp ∧ q.dp ≤ 65535) ∧ (0 ≤ q.sq ∧ q.sq ≤ 4294967295) ∧ (0 ≤ q.ak ∧ q.ak ≤ 4294967295) ∧ (0 ≤ q.fl ∧ q.fl ≤ 63) ∧ (0 ≤ q.wn ∧ q.wn ≤ 65535) ∧ q.xs.length ≤ 1460 := by
  simp only [Sg.ok, Bool.and_eq_true, inR_iff, decide_eq_true_eq]
/-- what goes ahead of a segment for its sum. -/
def segHd (src dst n : Nat) : List UInt8 := big 4 src ++ big 4 dst ++ [0, 6] ++ big 2 n
theorem segHd_length (src dst n : Nat) : (segHd src dst n).length = 12 := by simp [segHd, big_length]
/-- the sum of bytes between two addresses. -/
def segSum (src dst : Nat) (xs : List UInt8) : Nat := Sm.check (segHd src dst xs.length ++ xs)
theorem segSum_le (src dst : Nat) (xs : List UInt8) : segSum src dst xs ≤ 65535 := Sm.check_le _
def sgHead0 (sp dp sq ak fl wn : Nat) : List UInt8 := big 2 sp ++ big 2 dp ++ big 4 sq ++ big 4 ak ++ [0x50, UInt8.ofNat fl] ++ big 2 wn ++ [0, 0, 0, 0]
theorem sgHead0_length (sp dp sq ak fl wn : Nat) : (sgHead0 sp dp sq ak fl wn).length = 20 := by simp [sgHead0, big_length]
def sgPut (zs : List UInt8) (v : Nat) : List UInt8 := (zs.set 16 (UInt8.ofNat (v / 256))).set (16 + 1) (UInt8.ofNat v)
def sgBytes (src dst sp dp sq ak fl wn : Nat) (xs : List UInt8) : List UInt8 :=
  sgPut (sgHead0 sp dp sq ak fl wn ++ xs) (segSum src dst (sgHead0 sp dp sq ak fl wn ++ xs))
theorem sgPut_length (zs : List UInt8) (v : Nat) : (sgPut zs v).length = zs.length := by simp [sgPut]
theorem sgBytes_length (src dst sp dp sq ak fl wn : Nat) (xs : List UInt8) : (sgBytes src dst sp dp sq ak fl wn xs).length = 20 + xs.length := by
  rw [sgBytes, sgPut_length, List.length_append, sgHead0_length]
def Sg.bytes (src dst : Nat) (q : Sg) : List UInt8 := sgBytes src dst q.sp.toNat q.dp.toNat q.sq.toNat q.ak.toNat q.fl.toNat q.wn.toNat q.xs

def Sg.zero : Sg := ⟨0, 0, 0, 0, 0, 0, []⟩
def sgN (xs : List UInt8) : Nat := 4 * (b8 xs 12 / 16)
def sgParsed (xs : List UInt8) : Sg := ⟨num2 xs 0 2, num2 xs 2 2, num2 xs 4 4, num2 xs 8 4, ((b8 xs 13 % 64 : Nat) : Int), num2 xs 14 2, xs.drop (sgN xs)⟩
def wordB (n : Int) : Bool := inR n 4294967295
/-- the segment that bytes are between two addresses, or what is wrong. -/
def segOut (src dst : Int) (xs : List UInt8) : Sg × Int :=
  if wordB src = false ∨ wordB dst = false then (.zero, 1)
  else if xs.length < 20 then (.zero, 7)
  else if sgN xs < 20 then (.zero, 1)
  else if xs.length < sgN xs then (.zero, 7)
  else if 1480 < xs.length then (.zero, 2)
  else if segSum src.toNat dst.toNat xs ≠ 0 then (.zero, 8)
  else (sgParsed xs, 0)

theorem word_nat (n : Nat) (h : n < 4294967296) : wordB (n : Int) = true := inR_iff.2 ⟨by omega, by omega⟩

/-- what is set behind a beginning. -/
theorem set_behind (hd zs : List UInt8) (p : Nat) (u : UInt8) : (hd ++ zs).set (hd.length + p) u = hd ++ zs.set p u := by
  rw [List.set_append_right _ _ (by omega)]
  congr 2; omega
theorem segSum_bytes (src dst sp dp sq ak fl wn : Nat) (xs : List UInt8) : segSum src dst (sgBytes src dst sp dp sq ak fl wn xs) = 0 := by
  have hl : (sgBytes src dst sp dp sq ak fl wn xs).length = (sgHead0 sp dp sq ak fl wn ++ xs).length := by rw [sgBytes, sgPut_length]
  unfold segSum
  rw [hl]
  unfold sgBytes segSum
  have h0 := sgHead0_length sp dp sq ak fl wn
  obtain ⟨zs, hzs⟩ : ∃ zs, zs = sgHead0 sp dp sq ak fl wn ++ xs := ⟨_, rfl⟩
  have g0 : zs[16]? = some 0 := by rw [hzs]; rfl
  have g1 : zs[17]? = some 0 := by rw [hzs]; rfl
  have hzl : 20 ≤ zs.length := by rw [hzs, List.length_append]; omega
  rw [← hzs]
  have hh := segHd_length src dst zs.length
  have := check_put_at (segHd src dst zs.length ++ zs) 28 rfl (by rw [List.length_append]; omega)
    (by rw [List.getElem?_append_right (by omega), hh]; exact g0) (by rw [List.getElem?_append_right (by omega), hh]; exact g1)
  have e1 := set_behind (segHd src dst zs.length) zs 16
  have e2 := fun ys => set_behind (segHd src dst zs.length) ys 17
  rw [hh] at e1 e2
  rw [e1, e2] at this
  exact this

section
variable (src dst sp dp sq ak fl wn : Nat) (xs : List UInt8)
theorem sg_12 : b8 (sgBytes src dst sp dp sq ak fl wn xs) 12 = 80 := rfl
theorem sg_N : sgN (sgBytes src dst sp dp sq ak fl wn xs) = 20 := by unfold sgN; rw [sg_12]
theorem sg_13 (h : fl < 256) : b8 (sgBytes src dst sp dp sq ak fl wn xs) 13 = fl := by
  show (UInt8.ofNat fl).toNat = fl
  rw [UInt8.toNat_ofNat']; omega
theorem sg_0 (h : sp < 65536) : num2 (sgBytes src dst sp dp sq ak fl wn xs) 0 2 = sp := ofB_big 2 sp (by simpa using h)
theorem sg_2 (h : dp < 65536) : num2 (sgBytes src dst sp dp sq ak fl wn xs) 2 2 = dp := ofB_big 2 dp (by simpa using h)
theorem sg_4 (h : sq < 4294967296) : num2 (sgBytes src dst sp dp sq ak fl wn xs) 4 4 = sq := ofB_big 4 sq (by simpa using h)
theorem sg_8 (h : ak < 4294967296) : num2 (sgBytes src dst sp dp sq ak fl wn xs) 8 4 = ak := ofB_big 4 ak (by simpa using h)
theorem sg_14 (h : wn < 65536) : num2 (sgBytes src dst sp dp sq ak fl wn xs) 14 2 = wn := ofB_big 2 wn (by simpa using h)
theorem sg_drop : (sgBytes src dst sp dp sq ak fl wn xs).drop 20 = xs := rfl
end

theorem seg_back (src dst : Nat) (_hs : src < 4294967296) (_hd : dst < 4294967296) (q : Sg) (h : q.ok = true) (src' dst' : Nat) (hs' : src' < 4294967296) (hd' : dst' < 4294967296) (hsum : segSum src' dst' (q.bytes src dst) = 0) : segOut src' dst' (q.bytes src dst) = (q, 0) := by
  obtain ⟨⟨h1, h2⟩, ⟨h3, h4⟩, ⟨h5, h6⟩, ⟨h7, h8⟩, ⟨h9, h10⟩, ⟨h11, h12⟩, h13⟩ := Sg.ok_iff.1 h
  obtain ⟨sp, dp, sq, ak, fl, wn, xs⟩ := q
  simp only at h1 h2 h3 h4 h5 h6 h7 h8 h9 h10 h11 h12 h13
  obtain ⟨sp, rfl⟩ := Int.eq_ofNat_of_zero_le h1
  obtain ⟨dp, rfl⟩ := Int.eq_ofNat_of_zero_le h3
  obtain ⟨sq, rfl⟩ := Int.eq_ofNat_of_zero_le h5
  obtain ⟨ak, rfl⟩ := Int.eq_ofNat_of_zero_le h7
  obtain ⟨fl, rfl⟩ := Int.eq_ofNat_of_zero_le h9
  obtain ⟨wn, rfl⟩ := Int.eq_ofNat_of_zero_le h11
  have hb : (Sg.mk sp dp sq ak fl wn xs).bytes src dst = sgBytes src dst sp dp sq ak fl wn xs := rfl
  rw [hb] at hsum ⊢
  have hl := sgBytes_length src dst sp dp sq ak fl wn xs
  have e0 := sg_N src dst sp dp sq ak fl wn xs
  unfold segOut
  rw [word_nat src' hs', word_nat dst' hd', e0, hl, if_neg (by simp), if_neg (by omega), if_neg (by omega), if_neg (by omega), if_neg (by omega), Int.toNat_natCast, Int.toNat_natCast, hsum, if_neg (by omega)]
  unfold sgParsed
  rw [e0, sg_0 _ _ _ _ _ _ _ _ _ (by omega), sg_2 _ _ _ _ _ _ _ _ _ (by omega), sg_4 _ _ _ _ _ _ _ _ _ (by omega), sg_8 _ _ _ _ _ _ _ _ _ (by omega), sg_13 _ _ _ _ _ _ _ _ _ (by omega), sg_14 _ _ _ _ _ _ _ _ _ (by omega), sg_drop, Nat.mod_eq_of_lt (by omega)]

theorem seg_same (src dst : Nat) (hs : src < 4294967296) (hd : dst < 4294967296) (q : Sg) (h : q.ok = true) : segOut src dst (q.bytes src dst) = (q, 0) :=
  seg_back src dst hs hd q h src dst hs hd (segSum_bytes ..)
end Go.Proofs.YtlacidnnankjlaaGreatDoor

/-
  Frames in plain Lean: their bytes, what bytes are as a frame; the segment that a frame carries; a client's frames.
-/
namespace Go.Proofs.YtlacidnnankjlaaGreatDoor

/-- a frame. -/
structure Frm where
  d : Nat
  s : Nat
  t : Nat
  xs : List UInt8
def Frm.zero : Frm := ⟨0, 0, 0, []⟩
def frBytes (d s t : Nat) (xs : List UInt8) : List UInt8 := big 6 d ++ (big 6 s ++ (big 2 t ++ xs))
theorem frBytes_length (d s t : Nat) (xs : List UInt8) : (frBytes d s t xs).length = 14 + xs.length := by simp [frBytes, big_length]; omega
def frOut (xs : List UInt8) : Frm × Int :=
  if xs.length < 14 then (.zero, 7)
  else if 1514 < xs.length then (.zero, 2)
  else (⟨num2 xs 0 6, num2 xs 6 6, num2 xs 12 2, xs.drop 14⟩, 0)
theorem fr_back (d s t : Nat) (xs : List UInt8) (hd : d < 281474976710656) (hs : s < 281474976710656) (ht : t < 65536) (hx : xs.length ≤ 1500) : frOut (frBytes d s t xs) = (⟨d, s, t, xs⟩, 0) := by
  have hl := frBytes_length d s t xs
  have e0 : num2 (frBytes d s t xs) 0 6 = d := ofB_big 6 d (by simpa using hd)
  have e1 : num2 (frBytes d s t xs) 6 6 = s := ofB_big 6 s (by simpa using hs)
  have e2 : num2 (frBytes d s t xs) 12 2 = t := ofB_big 2 t (by simpa using ht)
  have e3 : (frBytes d s t xs).drop 14 = xs := rfl
  unfold frOut
  rw [hl, if_neg (by omega), if_neg (by omega), e0, e1, e2, e3]
theorem frOut_len (xs : List UInt8) : (frOut xs).1.xs.length ≤ xs.length := by
  unfold frOut
  repeat' split
  all_goals simp [Frm.zero]
/-- the segment that a frame carries from one to another one. -/
def segTo (b : List UInt8) (src sport dst dport : Int) : Sg × Bool :=
  if (frOut b).2 ≠ 0 ∨ (frOut b).1.t ≠ 2048 then (.zero, false)
  else if (parseOut (frOut b).1.xs).2 ≠ 0 ∨ (parseOut (frOut b).1.xs).1.s ≠ src ∨ (parseOut (frOut b).1.xs).1.d ≠ dst ∨ (parseOut (frOut b).1.xs).1.p ≠ 6 then (.zero, false)
  else ((segOut src dst (parseOut (frOut b).1.xs).1.xs).1, (segOut src dst (parseOut (frOut b).1.xs).1.xs).2 == 0 && ((segOut src dst (parseOut (frOut b).1.xs).1.xs).1.sp == sport && (segOut src dst (parseOut (frOut b).1.xs).1.xs).1.dp == dport))
/-- a frame with a segment between two places. -/
def wire (dm sm : Nat) (src dst : Nat) (q : Sg) : List UInt8 := frBytes dm sm 2048 (Pk.bytes ⟨src, dst, 6, 64, 0, Sg.bytes src dst q⟩)
theorem sgb_length (src dst : Nat) (q : Sg) : (q.bytes src dst).length = 20 + q.xs.length := sgBytes_length ..
theorem wire_length (dm sm src dst : Nat) (q : Sg) : (wire dm sm src dst q).length = 54 + q.xs.length := by
  unfold wire
  rw [frBytes_length, Pk.bytes_length, sgb_length]
  omega
theorem wire_ip {src dst : Nat} {q : Sg} (hs : src < 4294967296) (hd : dst < 4294967296) (h : q.xs.length ≤ 1460) : Pk.ok ⟨src, dst, 6, 64, 0, Sg.bytes src dst q⟩ = true :=
  Pk.ok_iff.2 ⟨⟨by show (0 : Int) ≤ (src : Int); omega, by show (src : Int) ≤ 4294967295; omega⟩, ⟨by show (0 : Int) ≤ (dst : Int); omega, by show (dst : Int) ≤ 4294967295; omega⟩, ⟨by show (0 : Int) ≤ 6; decide, by show (6 : Int) ≤ 255; decide⟩, ⟨by show (0 : Int) ≤ 64; decide, by show (64 : Int) ≤ 255; decide⟩, ⟨by show (0 : Int) ≤ 0; decide, by show (0 : Int) ≤ 65535; decide⟩, by show (Sg.bytes src dst q).length ≤ 1480; rw [sgb_length]; omega⟩
theorem wire_fr {dm sm src dst : Nat} {q : Sg} (hdm : dm < 281474976710656) (hsm : sm < 281474976710656) (h : q.ok = true) : frOut (wire dm sm src dst q) = (⟨dm, sm, 2048, Pk.bytes ⟨src, dst, 6, 64, 0, Sg.bytes src dst q⟩⟩, 0) := by
  have hq := (Sg.ok_iff.1 h).2.2.2.2.2.2
  exact fr_back dm sm 2048 _ hdm hsm (by decide) (by rw [Pk.bytes_length, sgb_length]; omega)
theorem wire_back {dm sm src dst : Nat} {q : Sg} (hdm : dm < 281474976710656) (hsm : sm < 281474976710656) (hs : src < 4294967296) (hd : dst < 4294967296) (h : q.ok = true) : segTo (wire dm sm src dst q) src q.sp dst q.dp = (q, true) := by
  have hq := (Sg.ok_iff.1 h).2.2.2.2.2.2
  have hp := parse_back ⟨src, dst, 6, 64, 0, Sg.bytes src dst q⟩ (wire_ip hs hd hq) []
  rw [List.append_nil] at hp
  unfold segTo
  rw [wire_fr hdm hsm h]
  simp only [hp, seg_same src dst hs hd q h]
  simp
section
variable (op sm si dm di : Nat)
end
end Go.Proofs.YtlacidnnankjlaaGreatDoor

/-
  The walk of the document's own reply of chapter 11.
-/
namespace Go.Proofs.YtlacidnnankjlaaGreatDoor
open Go.RowKit

theorem size_u8 : (Tryz.prog.info? 5).map (·.size) = some 1 := by kernel_rfl
theorem icmpBig2 (n : Nat) : big 2 n = [UInt8.ofNat (n / 256), UInt8.ofNat n] := by simp [big]
theorem splice2 (xs : List UInt8) (p : Nat) (u v : UInt8) (h : p + 1 < xs.length) : xs.take p ++ [u, v] ++ xs.drop (p + 2) = (xs.set p u).set (p + 1) v := by
  obtain ⟨x, hx⟩ : ∃ x, xs[p]? = some x := ⟨_, List.getElem?_eq_getElem (by omega)⟩
  obtain ⟨y, hy⟩ : ∃ x, xs[p + 1]? = some x := ⟨_, List.getElem?_eq_getElem (by omega)⟩
  have := (set_two hx hy u v).2
  rw [this]; simp

end Go.Proofs.YtlacidnnankjlaaGreatDoor

/-
  The walks of chapter 10's small functions: ip.within, ip.May, Num, Word, the document's Packet, EqPacket, CopyPacket, heavy, num.
-/
namespace Go.Proofs.YtlacidnnankjlaaGreatDoor
open Go.RowKit

theorem ipWithin (n m : Int) (w : World) : Calls Tryz.prog 136 #[.int .i64 n, .int .i64 m] w fun e w' => e = .returned (.bool (inR n m)) ∧ w = w' := by
  by_cases h1 : 0 ≤ n
  · by_cases h2 : n ≤ m
    · have H := Lib.hid (inR_iff.2 ⟨h1, h2⟩)
      go_enter Tryz.func136, Tryz.ntmps136
      go_wp2
      go_ret
      exact ⟨by rw [H.out]; rfl, rfl⟩
    · have H := Lib.hid (Bool.eq_false_iff.2 fun h => h2 (inR_iff.1 h).2)
      go_enter Tryz.func136, Tryz.ntmps136
      go_wp2
      go_ret
      exact ⟨by rw [H.out]; rfl, rfl⟩
  · have H := Lib.hid (Bool.eq_false_iff.2 fun h => h1 (inR_iff.1 h).1 : inR n m = false)
    go_enter Tryz.func136, Tryz.ntmps136
    go_wp2
    go_ret
    exact ⟨by rw [H.out]; rfl, rfl⟩
theorem refNum (n m : Int) (w : World) : Calls Tryz.prog 24 #[.int .i64 n, .int .i64 m] w fun e w' => e = .returned (.bool (inR n m)) ∧ w = w' := by
  by_cases h1 : 0 ≤ n
  · by_cases h2 : n ≤ m
    · have H := Lib.hid (inR_iff.2 ⟨h1, h2⟩)
      go_enter Tryz.func24, Tryz.ntmps24
      go_wp2
      go_ret
      exact ⟨by rw [H.out]; rfl, rfl⟩
    · have H := Lib.hid (Bool.eq_false_iff.2 fun h => h2 (inR_iff.1 h).2)
      go_enter Tryz.func24, Tryz.ntmps24
      go_wp2
      go_ret
      exact ⟨by rw [H.out]; rfl, rfl⟩
  · have H := Lib.hid (Bool.eq_false_iff.2 fun h => h1 (inR_iff.1 h).1 : inR n m = false)
    go_enter Tryz.func24, Tryz.ntmps24
    go_wp2
    go_ret
    exact ⟨by rw [H.out]; rfl, rfl⟩
theorem refWord (n : Int) (w : World) : Calls Tryz.prog 23 #[.int .i64 n] w fun e w' => e = .returned (.bool (inR n 4294967295)) ∧ w = w' := by
  go_enter Tryz.func23, Tryz.ntmps23
  go_wp2_with fail
  (with_reducible refine (refNum n 4294967295 w).mono ?_)
  rintro e w' ⟨rfl, rfl⟩
  go_wp2
  go_ret
  exact ⟨rfl, rfl⟩

set_option maxRecDepth 100000 in
set_option maxHeartbeats 1600000 in
theorem ipMay (s d p t i : Int) (n c : Nat) (A : Option Addr) (b1 b2 b3 b4 b5 : Bool) (h1 : inR s 4294967295 = b1) (h2 : inR d 4294967295 = b2) (h3 : inR p 255 = b3) (h4 : inR t 255 = b4) (h5 : inR i 65535 = b5) (w : World) :
    Calls Tryz.prog 114 #[.agg #[.int .i64 s, .int .i64 d, .int .i64 p, .int .i64 t, .int .i64 i, .slice A n c]] w fun e w' => e = .returned (.bool (b1 && (b2 && (b3 && (b4 && (b5 && decide (n ≤ 1480))))))) ∧ Below w.heap.size w w' := by
  have HB := Lib.hid (fun r f => (Below.refl w.heap.size w).alloc (Nat.le_refl _) (.cells r f))
  have K1 := Lib.hid (fun w => h1 ▸ ipWithin s 4294967295 w)
  have K2 := Lib.hid (fun w => h2 ▸ ipWithin d 4294967295 w)
  have K3 := Lib.hid (fun w => h3 ▸ ipWithin p 255 w)
  have K4 := Lib.hid (fun w => h4 ▸ ipWithin t 255 w)
  have K5 := Lib.hid (fun w => h5 ▸ ipWithin i 65535 w)
  have hc : b1 = false ∨ (b1 = true ∧ b2 = false) ∨ (b1 = true ∧ b2 = true ∧ b3 = false) ∨ (b1 = true ∧ b2 = true ∧ b3 = true ∧ b4 = false) ∨ (b1 = true ∧ b2 = true ∧ b3 = true ∧ b4 = true ∧ b5 = false) ∨ (b1 = true ∧ b2 = true ∧ b3 = true ∧ b4 = true ∧ b5 = true ∧ n ≤ 1480) ∨ (b1 = true ∧ b2 = true ∧ b3 = true ∧ b4 = true ∧ b5 = true ∧ ¬ n ≤ 1480) := by
    cases b1 <;> cases b2 <;> cases b3 <;> cases b4 <;> cases b5 <;> simp <;> omega
  clear h1 h2 h3 h4 h5
  rcases hc with rfl | ⟨rfl, rfl⟩ | ⟨rfl, rfl, rfl⟩ | ⟨rfl, rfl, rfl, rfl⟩ | ⟨rfl, rfl, rfl, rfl, rfl⟩ | ⟨rfl, rfl, rfl, rfl, rfl, hn⟩ | ⟨rfl, rfl, rfl, rfl, rfl, hn⟩
  all_goals
    go_enter Tryz.func114, Tryz.ntmps114
    go_wp2_with (first
      | (go_at_call 136; (with_reducible refine (K1.out _).mono ?_); rintro e w' ⟨rfl, rfl⟩; clear K1)
      | (go_at_call 136; (with_reducible refine (K2.out _).mono ?_); rintro e w' ⟨rfl, rfl⟩; clear K2)
      | (go_at_call 136; (with_reducible refine (K3.out _).mono ?_); rintro e w' ⟨rfl, rfl⟩; clear K3)
      | (go_at_call 136; (with_reducible refine (K4.out _).mono ?_); rintro e w' ⟨rfl, rfl⟩; clear K4)
      | (go_at_call 136; (with_reducible refine (K5.out _).mono ?_); rintro e w' ⟨rfl, rfl⟩; clear K5))
    go_ret
    exact ⟨by first | (simp [*]; done) | (simp [*]; omega), HB.out _ _⟩

end Go.Proofs.YtlacidnnankjlaaGreatDoor

/-
  The walks of heavy and CopyPacket.
-/
namespace Go.Proofs.YtlacidnnankjlaaGreatDoor
open Go.RowKit

end Go.Proofs.YtlacidnnankjlaaGreatDoor

/-
  The walk of ip.Bytes.
-/
namespace Go.Proofs.YtlacidnnankjlaaGreatDoor
open Go.RowKit

/-- the six cells of a packet. -/
def PkAt (w : World) (g : Nat) (s d p t i : Int) (v : Value) : Prop :=
  w.cell? ⟨g, 0, none⟩ = some (.int .i64 s) ∧ w.cell? ⟨g, 1, none⟩ = some (.int .i64 d) ∧ w.cell? ⟨g, 2, none⟩ = some (.int .i64 p) ∧ w.cell? ⟨g, 3, none⟩ = some (.int .i64 t) ∧ w.cell? ⟨g, 4, none⟩ = some (.int .i64 i) ∧ w.cell? ⟨g, 5, none⟩ = some v
theorem PkAt.box (w : World) (s d p t i : Int) (v : Value) (T : TypeId) : PkAt (w.alloc (.cells #[.int .i64 s, .int .i64 d, .int .i64 p, .int .i64 t, .int .i64 i, v] T)) w.heap.size s d p t i v := by
  refine ⟨?_, ?_, ?_, ?_, ?_, ?_⟩ <;> rw [World.cell?_alloc_at _ _ _ _ rfl] <;> rfl
theorem PkAt.below {w w' : World} {B g : Nat} {s d p t i : Int} {v : Value} (h : PkAt w g s d p t i v) (hb : Below B w w') (hg : g < B) : PkAt w' g s d p t i v := by
  obtain ⟨c0, c1, c2, c3, c4, c5⟩ := h
  exact ⟨(hb.cell hg).trans c0, (hb.cell hg).trans c1, (hb.cell hg).trans c2, (hb.cell hg).trans c3, (hb.cell hg).trans c4, (hb.cell hg).trans c5⟩

theorem ipMayV (s d p t i : Int) (xs : List UInt8) (n : Nat) (hl : xs.length = n) (A : Option Addr) (c : Nat) (b : Bool) (h : Pk.ok ⟨s, d, p, t, i, xs⟩ = b) (w : World) :
    Calls Tryz.prog 114 #[.agg #[.int .i64 s, .int .i64 d, .int .i64 p, .int .i64 t, .int .i64 i, .slice A n c]] w fun e w' => e = .returned (.bool b) ∧ Below w.heap.size w w' := by
  subst h hl
  exact ipMay s d p t i xs.length c A _ _ _ _ _ rfl rfl rfl rfl rfl w
theorem byte_n (n : Nat) (h : n ≤ 255) : (((UInt8.ofNat n).toNat : Nat) : Int) = (n : Int) := by
  rw [UInt8.toNat_ofNat']; omega
theorem lit4 (t p : Nat) (ht : t ≤ 255) (hp : p ≤ 255) : (#[Value.int .u8 (t : Int), .int .u8 (p : Int), .int .u8 0, .int .u8 0] : Array Value).toList = ([UInt8.ofNat t, UInt8.ofNat p, 0, 0] : List UInt8).map bv := by
  simp only [List.map, bv, byte_n t ht, byte_n p hp]
  rfl

theorem head0_eq (s d p t i n : Nat) : [0x45, 0] ++ big 2 (20 + n) ++ big 2 i ++ big 2 16384 ++ [UInt8.ofNat t, UInt8.ofNat p, 0, 0] ++ big 4 s ++ big 4 d = ipHead0 s d p t i n := by
  have e : big 2 16384 = [0x40, 0] := by decide
  rw [e]
  simp [ipHead0]

set_option maxRecDepth 100000 in
set_option maxHeartbeats 3200000 in
theorem ipBytes (s d p t i : Nat) (xs : List UInt8) (n : Nat) (hl : xs.length = n) (A : Option Addr) (c : Nat) (h : Pk.ok ⟨s, d, p, t, i, xs⟩ = true) (w : World) (hx : RB w w.heap.size A xs) :
    Calls Tryz.prog 83 #[.agg #[.int .i64 s, .int .i64 d, .int .i64 p, .int .i64 t, .int .i64 i, .slice A n c]] w fun e w' => ∃ A' c', e = .returned (.tuple #[.slice A' (20 + n) c', .int .i64 0]) ∧ w'.ownsRow w.heap.size 5 1 (.slice A' (20 + n) c') (20 + n) ((ipHead s d p t i n ++ xs).map bv) ∧ Below w.heap.size w w' := by
  obtain ⟨⟨_, hs⟩, ⟨_, hd⟩, ⟨_, hp⟩, ⟨_, ht⟩, ⟨_, hi⟩, hn⟩ := Pk.ok_iff.1 h
  simp only at hs hd hp ht hi hn
  have hb01 := (Below.refl w.heap.size w).alloc (Nat.le_refl _) (.cells #[.int .i64 s, .int .i64 d, .int .i64 p, .int .i64 t, .int .i64 i, .slice A n c] 89)
  have hp1 := PkAt.box w s d p t i (.slice A n c) 89
  have hx1 := hx.next hb01
  have hs1 : (w.alloc (.cells #[.int .i64 s, .int .i64 d, .int .i64 p, .int .i64 t, .int .i64 i, .slice A n c] 89)).heap.size = w.heap.size + 1 := World.size_alloc _ _
  have KM := Lib.hid (ipMayV s d p t i xs n hl A c _ h (w.alloc (.cells #[.int .i64 s, .int .i64 d, .int .i64 p, .int .i64 t, .int .i64 i, .slice A n c] 89)))
  have hl' := Lib.hid hl
  rw [hl] at hn
  clear h hx hl
  go_enter Tryz.func83, Tryz.ntmps83
  go_wp2_with fail
  (with_reducible refine KM.out.mono ?_)
  rintro e w2 ⟨rfl, hb12⟩
  clear KM
  generalize w.alloc (.cells #[.int .i64 s, .int .i64 d, .int .i64 p, .int .i64 t, .int .i64 i, .slice A n c] 89) = w1 at hb01 hp1 hx1 hs1 hb12
  have hp2 := hp1.below hb12 (by omega)
  have hx2 := hx1.next hb12
  have hb02 := hb01.trans (hb12.mono hb01.size)
  have hs2 : w.heap.size < w2.heap.size := by have := hb12.size; omega
  clear hp1 hx1 hb12 hb01 hs1
  obtain ⟨c0, c1, c2, c3, c4, c5⟩ := hp2
  have hp2 : PkAt w2 w.heap.size s d p t i (.slice A n c) := ⟨c0, c1, c2, c3, c4, c5⟩
  have hbL := (Below.refl w2.heap.size w2).alloc (Nat.le_refl _) (.cells #[.int .u8 69, .int .u8 0] 5)
  have hoL : (w2.alloc (.cells #[.int .u8 69, .int .u8 0] 5)).ownsRow w2.heap.size 5 1 (.slice (some ⟨w2.heap.size, 0, none⟩) 2 2) 2 (([0x45, 0] : List UInt8).map bv) :=
    World.ownsRow_lit w2 #[.int .u8 69, .int .u8 0] 2 (Nat.le_refl _) (by decide) rfl
  have K1 := Lib.hid (sumPut w2.heap.size w2.heap.size w2 [0x45, 0] 2 rfl (some ⟨w2.heap.size, 0, none⟩) 2 2 (20 + (n : Int)) 2 (20 + n) rfl (by omega) (by omega) (by omega) _ hoL hbL (Nat.le_refl _) hbL.size (by omega))
  clear hbL hoL
  go_wp2_with fail
  (with_reducible refine K1.out.mono ?_)
  rintro e w3 ⟨A3, p3, rfl, hown3, hb3, hs3⟩
  clear K1 c0 c1 c2 c3 c4 c5
  have hp3 := hp2.below hb3 hs2
  obtain ⟨c0, c1, c2, c3, c4, c5⟩ := hp3
  go_wp2_with fail
  ((with_reducible refine (sumPut w2.heap.size w2.heap.size w2 ([0x45, 0] ++ big 2 (20 + n)) 4 rfl A3 p3 2 (i : Int) 2 i rfl rfl (by omega) (by omega) w3 hown3 hb3 (Nat.le_refl _) hs3 (by omega)).mono ?_))
  rintro e w4 ⟨A4, p4, rfl, hown4, hb4, hs4⟩
  clear hown3 hb3 hs3 c0 c1 c2 c3 c4 c5
  go_wp2_with fail
  ((with_reducible refine (sumPut w2.heap.size w2.heap.size w2 ([0x45, 0] ++ big 2 (20 + n) ++ big 2 i) 6 rfl A4 p4 2 16384 2 16384 rfl rfl (by omega) (by omega) w4 hown4 hb4 (Nat.le_refl _) hs4 (by omega)).mono ?_))
  rintro e w5 ⟨A5, p5, rfl, hown5, hb5, hs5⟩
  clear hown4 hb4 hs4
  have hp5 := hp2.below hb5 hs2
  obtain ⟨c0, c1, c2, c3, c4, c5⟩ := hp5
  have hbL := hb5.alloc hs5 (.cells #[.int .u8 (t : Int), .int .u8 (p : Int), .int .u8 0, .int .u8 0] 5)
  have hoL := Lib.hid (own_below hown5 ((Below.refl w5.heap.size w5).alloc (Nat.le_refl _) (.cells #[.int .u8 (t : Int), .int .u8 (p : Int), .int .u8 0, .int .u8 0] 5)))
  have hrL := Lib.hid (RB.lit w5 5 #[.int .u8 (t : Int), .int .u8 (p : Int), .int .u8 0, .int .u8 0] (0, 0) [UInt8.ofNat t, UInt8.ofNat p, 0, 0] (lit4 t p (by omega) (by omega)))
  have hbL' := Lib.hid hbL
  clear hown5 hb5 hbL
  go_wp2_with (at_builtin; refine wpList_append_bytes w2.heap.size hbL'.out rfl _ _ 31 rfl w2.heap.size 5 Tryz.underlying31 info_u8 _ _ ([0x45, 0] ++ big 2 (20 + n) ++ big 2 i ++ big 2 16384) (by exact rfl) hoL.out (some ⟨w5.heap.size, 0, none⟩) 4 4 [UInt8.ofNat t, UInt8.ofNat p, 0, 0] rfl (by exact rfl) hrL.out (by omega) (by simp; omega) (Nat.le_refl _) ?_; intro A6 p6 w6 hown6 hb6)
  clear c0 c1 c2 c3 c4 c5 hoL hrL hbL'
  have hown6' : w6.ownsRow w2.heap.size 5 1 (.slice A6 12 p6) 12 (([0x45, 0] ++ big 2 (20 + n) ++ big 2 i ++ big 2 16384 ++ [UInt8.ofNat t, UInt8.ofNat p, 0, 0]).map bv) := hown6
  have hs6 : w2.heap.size ≤ w6.heap.size := hb6.size
  obtain ⟨c0, c1, c2, c3, c4, c5⟩ := hp2.below hb6 hs2
  have HO6 := Lib.hid hown6'
  have HB6 := Lib.hid hb6
  clear hown6 hown6' hb6
  have K1 := Lib.hid (sumPut w2.heap.size w2.heap.size w2 ([0x45, 0] ++ big 2 (20 + n) ++ big 2 i ++ big 2 16384 ++ [UInt8.ofNat t, UInt8.ofNat p, 0, 0]) 12 (by simp [big_length]) A6 p6 4 (s : Int) 4 s rfl rfl (by omega) (by omega) w6.drew HO6.out.drew HB6.out.drew (Nat.le_refl _) hs6 (by omega))
  have K2 := Lib.hid (fun A7 p7 (w7 : World) hown7 hb7 hs7 => sumPut w2.heap.size w2.heap.size w2 ([0x45, 0] ++ big 2 (20 + n) ++ big 2 i ++ big 2 16384 ++ [UInt8.ofNat t, UInt8.ofNat p, 0, 0] ++ big 4 s) 16 (by simp [big_length]) A7 p7 4 (d : Int) 4 d rfl rfl (by omega) (by omega) w7 hown7 hb7 (Nat.le_refl _) hs7 (by omega))
  go_region_law (first
    | (go_simp; go_at_call 111; (with_reducible refine K1.out.mono ?_); rintro e w7 ⟨A7, p7, rfl, hown7, hb7, hs7⟩; obtain ⟨d0, d1, d2, d3, d4, d5⟩ := hp2.below hb7 hs2)
    | (go_simp; go_at_call 111; (with_reducible refine (K2.out A7 p7 w7 hown7 hb7 hs7).mono ?_); rintro e w8 ⟨A8, p8, rfl, hown8, hb8, hs8⟩; obtain ⟨e0, e1, e2, e3, e4, e5⟩ := hp2.below hb8 hs2))
  all_goals
    clear c0 c1 c2 c3 c4 c5 d0 d1 d2 d3 d4 d5 e0 e1 e2 e3 e4 e5 K1 K2 hown7 hb7 hs7 HO6 HB6
    have hown8' : w8.ownsRow w2.heap.size 5 1 (.slice A8 20 p8) 20 ((ipHead0 s d p t i n).map bv) := by rw [← head0_eq]; exact hown8
    clear hown8
    obtain ⟨g, rfl, hg, hg2⟩ := own_form hown8' (by omega)
    obtain ⟨hl8, hr8⟩ := own_read hown8'
    have hcl := Sm.check_le (ipHead0 s d p t i n)
    have HH := Lib.hid (show ((ipHead0 s d p t i n).set 10 (UInt8.ofNat (Sm.check (ipHead0 s d p t i n) / 256))).set (10 + 1) (UInt8.ofNat (Sm.check (ipHead0 s d p t i n))) = ipHead s d p t i n from rfl)
    have K3 := Lib.hid (sumCheck (ipHead0 s d p t i n) 20 hl8 (some ⟨g, 0, none⟩) p8 w8 hr8 (by omega))
    have K4 := Lib.hid (sumSet g 20 p8 w2.heap.size (ipHead0 s d p t i n) 10 (Sm.check (ipHead0 s d p t i n)) 10 (Sm.check (ipHead0 s d p t i n)) rfl rfl w8 hown8' (by omega) hcl (by omega))
    generalize Sm.check (ipHead0 s d p t i n) = z at hcl HH K3 K4
    clear hown8' hl8 hr8
    go_wp2_with fail
    (with_reducible refine K3.out.mono ?_)
    rintro e w' ⟨rfl, rfl⟩
    go_wp2_with fail
    (with_reducible refine K4.out.mono ?_)
    rintro e w9 ⟨rfl, hown9, hO⟩
    clear K3 K4
    have hb9 := Lib.hid (hO.below _ _ hb8 hg)
    have hx9 := Lib.hid (hx2.next hb9.out)
    have hs9 : w2.heap.size ≤ w9.heap.size := hb9.out.size
    obtain ⟨c0, c1, c2, c3, c4, c5⟩ := hp2.below hb9.out hs2
    have HO9 := Lib.hid hown9
    clear hown9 hO hb8
    go_wp2_with (at_builtin; refine wpList_append_bytes w2.heap.size hb9.out rfl _ _ 31 rfl w2.heap.size 5 Tryz.underlying31 info_u8 _ _ _ (by exact rfl) HO9.out A n c xs hl'.out (by exact rfl) hx9.out (by omega) hs9 (Nat.le_refl _) ?_; intro A10 p10 w10 hown10 hb10)
    go_ret2
    refine ⟨A10, p10, rfl, ?_, hb02.trans (hb10.mono hb02.size)⟩
    rw [HH.out] at hown10
    exact own_base hown10 hb02.size

end Go.Proofs.YtlacidnnankjlaaGreatDoor

/-
  The walk of ip.Parse.
-/
namespace Go.Proofs.YtlacidnnankjlaaGreatDoor
open Go.RowKit

theorem frag_bits (v : Nat) (hv : v < 65536) : v &&& (18446744073709551615 - 49152) = v % 16384 := by
  apply Nat.eq_of_testBit_eq
  intro i
  rw [show (16384 : Nat) = 2 ^ 14 from rfl, Nat.testBit_mod_two_pow, Nat.testBit_and]
  by_cases hi : i < 16
  · have : i = 0 ∨ i = 1 ∨ i = 2 ∨ i = 3 ∨ i = 4 ∨ i = 5 ∨ i = 6 ∨ i = 7 ∨ i = 8 ∨ i = 9 ∨ i = 10 ∨ i = 11 ∨ i = 12 ∨ i = 13 ∨ i = 14 ∨ i = 15 := by omega
    rcases this with rfl | rfl | rfl | rfl | rfl | rfl | rfl | rfl | rfl | rfl | rfl | rfl | rfl | rfl | rfl | rfl <;> simp (decide := true) [Nat.testBit]
  · have h : v.testBit i = false := Nat.testBit_lt_two_pow (Nat.lt_of_lt_of_le hv (Nat.pow_le_pow_right (n := 2) (by omega) (by omega : 16 ≤ i)))
    rw [h]; simp
theorem andNot_frag (v : Nat) (hv : v < 65536) : bits .andNot .i64 (v : Int) 49152 = ((v % 16384 : Nat) : Int) := by
  show IntKind.i64.wrap ((BitVec.ofInt 64 (v : Int) &&& ~~~ (BitVec.ofInt 64 49152)).toNat : Int) = _
  rw [BitVec.toNat_and, ofInt_i64 v (by omega), IntKind.wrap_i64]
  have e : (~~~ (BitVec.ofInt 64 49152)).toNat = 18446744073709551615 - 49152 := by decide
  rw [e, frag_bits v hv]
  omega
theorem and_frag (v : Nat) (hv : v < 65536) : bits .and .i64 (v : Int) 16383 = ((v % 16384 : Nat) : Int) := by
  have := i64_and_nat v 16383 (by omega) (by omega)
  rw [show (16383 : Nat) = 2 ^ 14 - 1 from rfl, Nat.and_two_pow_sub_one_eq_mod] at this
  exact this
theorem u8_and15 (x : UInt8) : bits .and .u8 (x.toNat : Int) 15 = ((x.toNat % 16 : Nat) : Int) := by
  have := u8_and_nat x.toNat 15 (by have := x.toNat_lt; omega) (by omega)
  rw [show (15 : Nat) = 2 ^ 4 - 1 from rfl, Nat.and_two_pow_sub_one_eq_mod] at this
  exact this

/-- a packet (or none) and an error, its bytes in the call's own memory. -/
def PkParsed (w : World) (r : Pk × Int) (e : Ending) (w' : World) : Prop :=
  ∃ A c, e = .returned (.tuple #[.agg #[.int .i64 r.1.s, .int .i64 r.1.d, .int .i64 r.1.p, .int .i64 r.1.t, .int .i64 r.1.i, .slice A r.1.xs.length c], .int .i64 r.2]) ∧ w'.ownsRow w.heap.size 5 1 (.slice A r.1.xs.length c) r.1.xs.length (r.1.xs.map bv) ∧ Below w.heap.size w w'

theorem parsed_none (w : World) (k : Int) (w' : World) (hb : Below w.heap.size w w') : PkParsed w (.zero, k) (.returned (.tuple #[.agg #[.int .i64 0, .int .i64 0, .int .i64 0, .int .i64 0, .int .i64 0, .slice none 0 0], .int .i64 k])) w' :=
  ⟨none, 0, rfl, World.ownsRow_nil _ _ _ _, hb⟩
theorem b8_of {xs : List UInt8} {k : Nat} {x : UInt8} (h : xs[k]? = some x) : b8 xs k = x.toNat := by simp [b8, h]
theorem num2_lt (xs : List UInt8) (k : Nat) : num2 xs k 2 < 65536 := by
  have h1 := ofB_lt ((xs.drop k).take 2)
  have h2 : (256 : Nat) ^ ((xs.drop k).take 2).length ≤ 256 ^ 2 := Nat.pow_le_pow_right (by omega) (by rw [List.length_take]; omega)
  unfold num2
  omega
theorem getAt (xs : List UInt8) (n : Nat) (hl : xs.length = n) (b o c' : Nat) (w : World) (hx : RB w w.heap.size (some ⟨b, o, none⟩) xs) (k m : Nat) (hkm : k + m ≤ n) (hk : k < n) (hm : m ≤ 7) (v : Nat) (hv : num2 xs k m = v) :
    Calls Tryz.prog 117 #[.slice (some ⟨b, o + k, none⟩) m c'] w fun e w' => e = .returned (.int .i64 (v : Int)) ∧ w = w' := by
  subst hv
  exact sumGet ((xs.drop k).take m) m (by rw [List.length_take, List.length_drop]; omega) _ _ w ((hx.cut_at (by omega)).take m) hm
theorem ofAt (xs : List UInt8) (n : Nat) (hl : xs.length = n) (b o c' : Nat) (w : World) (hx : RB w w.heap.size (some ⟨b, o, none⟩) xs) (k m : Nat) (hkm : k + m ≤ n) (hk : k < n) (hm : m ≤ 7) (v : Nat) (hv : num2 xs k m = v) :
    Calls Tryz.prog 107 #[.slice (some ⟨b, o + k, none⟩) m c'] w fun e w' => e = .returned (.int .i64 (v : Int)) ∧ w = w' := by
  subst hv
  exact ofW ((xs.drop k).take m) m (by rw [List.length_take, List.length_drop]; omega) _ _ w ((hx.cut_at (by omega)).take m) hm
theorem cutAt {w : World} {B g o : Nat} {xs : List UInt8} (h : RB w B (some ⟨g, o, none⟩) xs) (N L : Nat) (hNL : N ≤ L) (hL : L ≤ xs.length) : RB w B (some ⟨g, o + N, none⟩) ((xs.take L).drop N) := by
  by_cases hN : N < L
  · exact (h.take L).cut_at (by rw [List.length_take]; omega)
  · rw [List.drop_of_length_le (by rw [List.length_take]; omega)]
    exact RB.nil
theorem parse_1 {xs : List UInt8} (h : xs.length < 20) : parseOut xs = (.zero, 7) := by unfold parseOut; rw [if_pos h]
/-- the six cells of a packet, stored. -/
abbrev set6 (w : World) (g : Nat) (a b c d e f : Value) : World :=
  (((((w.setCell ⟨g, 0, none⟩ a).setCell ⟨g, 1, none⟩ b).setCell ⟨g, 2, none⟩ c).setCell ⟨g, 3, none⟩ d).setCell ⟨g, 4, none⟩ e).setCell ⟨g, 5, none⟩ f
theorem set6_grown (w : World) (g : Nat) (a b c d e f : Value) : w.grownBy (set6 w g a b c d e f) (some g) :=
  (((((grown_setCell w g 0 a).trans (grown_setCell _ g 1 b)).trans (grown_setCell _ g 2 c)).trans (grown_setCell _ g 3 d)).trans (grown_setCell _ g 4 e)).trans (grown_setCell _ g 5 f)
theorem set6_only (w : World) (g : Nat) (a b c d e f : Value) : Only g w (set6 w g a b c d e f) :=
  ((((((Only.refl g w).set 0 a).set 1 b).set 2 c).set 3 d).set 4 e).set 5 f

theorem set6_at {w : World} {g : Nat} {s d p t i : Int} {v : Value} (h : PkAt w g s d p t i v) (s' d' p' t' i' : Int) (v' : Value) :
    PkAt (set6 w g (.int .i64 s') (.int .i64 d') (.int .i64 p') (.int .i64 t') (.int .i64 i') v') g s' d' p' t' i' v' := by
  obtain ⟨h0, h1, h2, h3, h4, h5⟩ := h
  have k : ∀ (w : World) (j j' : Nat) (u x : Value), j' ≠ j → w.cell? ⟨g, j, none⟩ = some x → (w.setCell ⟨g, j', none⟩ u).cell? ⟨g, j, none⟩ = some x := fun w j j' u x hj hc =>
    (World.cell?_setCell_other w ⟨g, j', none⟩ ⟨g, j, none⟩ u (by simp)).trans hc
  have m : ∀ (w : World) (j : Nat) (u x : Value), w.cell? ⟨g, j, none⟩ = some x → (w.setCell ⟨g, j, none⟩ u).cell? ⟨g, j, none⟩ = some u := fun w j u x hc => World.cell?_setCell_same _ _ _ hc
  refine ⟨?_, ?_, ?_, ?_, ?_, ?_⟩
  · exact k _ 0 5 _ _ (by omega) (k _ 0 4 _ _ (by omega) (k _ 0 3 _ _ (by omega) (k _ 0 2 _ _ (by omega) (k _ 0 1 _ _ (by omega) (m _ 0 _ _ h0)))))
  · exact k _ 1 5 _ _ (by omega) (k _ 1 4 _ _ (by omega) (k _ 1 3 _ _ (by omega) (k _ 1 2 _ _ (by omega) (m _ 1 _ _ (k _ 1 0 _ _ (by omega) h1)))))
  · exact k _ 2 5 _ _ (by omega) (k _ 2 4 _ _ (by omega) (k _ 2 3 _ _ (by omega) (m _ 2 _ _ (k _ 2 1 _ _ (by omega) (k _ 2 0 _ _ (by omega) h2)))))
  · exact k _ 3 5 _ _ (by omega) (k _ 3 4 _ _ (by omega) (m _ 3 _ _ (k _ 3 2 _ _ (by omega) (k _ 3 1 _ _ (by omega) (k _ 3 0 _ _ (by omega) h3)))))
  · exact k _ 4 5 _ _ (by omega) (m _ 4 _ _ (k _ 4 3 _ _ (by omega) (k _ 4 2 _ _ (by omega) (k _ 4 1 _ _ (by omega) (k _ 4 0 _ _ (by omega) h4)))))
  · exact m _ 5 _ _ (k _ 5 4 _ _ (by omega) (k _ 5 3 _ _ (by omega) (k _ 5 2 _ _ (by omega) (k _ 5 1 _ _ (by omega) (k _ 5 0 _ _ (by omega) h5)))))

set_option maxRecDepth 100000 in
set_option maxHeartbeats 3200000 in
theorem ipParse_ok (xs : List UInt8) (n : Nat) (hl : xs.length = n) (b0 o0 : Nat) (c : Nat) (hnc : n ≤ c) (w : World) (hx : RB w w.heap.size (some ⟨b0, o0, none⟩) xs) (hn : n ≤ 140737488351232)
    (h20 : ¬ n < 20) (x0 : UInt8) (hx0 : xs[0]? = some x0) (h4 : x0.toNat / 16 = 4) (N : Nat) (hN : N = 4 * (x0.toNat % 16)) (hN20 : ¬ N < 20) (hnN : ¬ n < N) (L : Nat) (hL : num2 xs 2 2 = L) (hLN : ¬ L < N) (hnL : ¬ n < L)
    (hS0 : Sm.check (xs.take N) = 0) (hF0 : num2 xs 6 2 % 16384 = 0) (hcN : ¬ c = N) :
    Calls Tryz.prog 86 #[.slice (some ⟨b0, o0, none⟩) n c] w (PkParsed w (parsed xs, 0)) := by
  have hbA := (Below.refl w.heap.size w).alloc (Nat.le_refl _) (.cells #[.int .i64 0, .int .i64 0, .int .i64 0, .int .i64 0, .int .i64 0, .slice none 0 0] 89)
  obtain ⟨b0', o0', x0', had0, hb, hx0', c0⟩ := hx.get (k := 0) (by omega)
  obtain ⟨rfl, rfl⟩ := RB.same_at rfl had0
  rw [hx0] at hx0'
  injection hx0' with hx0'
  subst hx0'
  simp only [Nat.add_zero] at c0
  have i0 : 0 < n := by omega
  have h20' : ¬ (n : Int) < 20 := by omega
  have cA := (hbA.cell (p := ⟨b0', o0', none⟩) hb).trans c0
  have hxA := hx.next hbA
  have e15 := u8_and15 x0
  have hb8 : b8 xs 0 = x0.toNat := b8_of hx0
  have hNI : 4 * ((x0.toNat : Int) % 16) = (N : Int) := by omega
  have hNx : ipN xs = N := by unfold ipN; rw [hb8]; exact hN.symm
  have HB := Lib.hid hbA
  have e4 : ((x0.toNat : Int) / 16 != 4) = false := by simp only [bne_eq_false_iff_eq]; omega
  have hN20' : ¬ (N : Int) < 20 := by omega
  have hnN' : ¬ (n : Int) < (N : Int) := by omega
  have KG2 := Lib.hid (getAt xs n hl b0' o0' (c - 2) _ hxA 2 2 (by omega) (by omega) (by omega) L hL)
  have hLN' : ¬ (L : Int) < (N : Int) := by omega
  have hnL' : ¬ (n : Int) < (L : Int) := by omega
  obtain ⟨S, hS⟩ : ∃ S, Sm.check (xs.take N) = S := ⟨_, rfl⟩
  have KC := Lib.hid (hS ▸ sumCheck (xs.take N) N (by rw [List.length_take]; omega) (some ⟨b0', o0', none⟩) c _ (hxA.take N) (by omega))
  rw [hS0] at hS
  have hSq : ((S : Int) != 0) = false := by rw [← hS]; rfl
  obtain ⟨F, hF⟩ : ∃ F, num2 xs 6 2 = F := ⟨_, rfl⟩
  have hFl : F < 65536 := by rw [← hF]; exact num2_lt xs 6
  have KG6 := Lib.hid (getAt xs n hl b0' o0' (c - 6) _ hxA 6 2 (by omega) (by omega) (by omega) F hF)
  have hFb := andNot_frag F hFl
  rw [hF] at hF0
  have hFq : (((F % 16384 : Nat) : Int) != 0) = false := by simp only [bne_eq_false_iff_eq]; omega
  obtain ⟨b8', o8, x8, ad8, hb8', hx8, c8⟩ := hxA.get (k := 8) (by omega)
  obtain ⟨rfl, rfl⟩ := RB.same_at rfl ad8
  obtain ⟨b9', o9, x9, ad9, hb9', hx9, c9⟩ := hxA.get (k := 9) (by omega)
  obtain ⟨rfl, rfl⟩ := RB.same_at rfl ad9
  have i8 : (8 : Int) < (n : Int) := by omega
  have i9 : (9 : Int) < (n : Int) := by omega
  have HXA := Lib.hid hxA
  have hl' := Lib.hid hl
  have hx8' := Lib.hid hx8
  have hx9' := Lib.hid hx9
  have hF' := Lib.hid hF
  have hL' := Lib.hid hL
  have hNx' := Lib.hid hNx
  have hb8h := Lib.hid hb8
  clear hx hxA hl hx8 hx9 hx0 hb8 hNx hN hbA c0 hL hS hF had0
  go_enter Tryz.func86, Tryz.ntmps86
  go_wp2
  refine wp_scope_fwd 0 rfl ?_
  go_wp2_with fail
  (with_reducible refine KG2.out.mono ?_)
  rintro e w' ⟨rfl, rfl⟩
  go_wp2_with fail
  (with_reducible refine KC.out.mono ?_)
  rintro e w' ⟨rfl, rfl⟩
  go_wp2_with fail
  (with_reducible refine KG6.out.mono ?_)
  rintro e w' ⟨rfl, rfl⟩
  clear KG2 KC KG6
  go_wp2_with fail
  have hz : PkAt (w.alloc (.cells #[.int .i64 0, .int .i64 0, .int .i64 0, .int .i64 0, .int .i64 0, .slice none 0 0] 89)) w.heap.size 0 0 0 0 0 (.slice none 0 0) := PkAt.box w 0 0 0 0 0 _ _
  have hfz : ∀ k, (w.alloc (.cells #[.int .i64 0, .int .i64 0, .int .i64 0, .int .i64 0, .int .i64 0, .slice none 0 0] 89)).frozen? ⟨w.heap.size, k, none⟩ = false := fun k => World.frozen?_alloc_at _ _ _ k rfl
  have hsA : (w.alloc (.cells #[.int .i64 0, .int .i64 0, .int .i64 0, .int .i64 0, .int .i64 0, .slice none 0 0] 89)).heap.size = w.heap.size + 1 := World.size_alloc _ _
  clear hb9' hb8' cA
  generalize w.alloc (.cells #[.int .i64 0, .int .i64 0, .int .i64 0, .int .i64 0, .int .i64 0, .slice none 0 0] 89) = w2 at HB HXA c8 c9 hz hfz hsA ⊢
  have s1 : (16 : Int) ≤ (c : Int) := by omega
  have s2 : (20 : Int) ≤ (c : Int) := by omega
  have s3 : (6 : Int) ≤ (c : Int) := by omega
  have s4 : (L : Int) ≤ (c : Int) := by omega
  have u1 : ¬ c = 12 := by omega
  have u2 : ¬ c = 16 := by omega
  have u3 : ¬ c = 4 := by omega
  have hzd : PkAt w2.drew w.heap.size 0 0 0 0 0 (.slice none 0 0) := hz
  have hfzd : ∀ k, w2.drew.frozen? ⟨w.heap.size, k, none⟩ = false := hfz
  have c8d : w2.drew.cell? ⟨b9', o9 + 8, none⟩ = some (.int .u8 (x8.toNat : Int)) := c8
  have c9d : w2.drew.cell? ⟨b9', o9 + 9, none⟩ = some (.int .u8 (x9.toNat : Int)) := c9
  have hsAd : w2.drew.heap.size = w.heap.size + 1 := hsA
  have HZ := Lib.hid (And.intro hzd (And.intro hfzd (And.intro c8d c9d)))
  clear hzd hfzd c8d c9d hz hfz
  have wr8 := wrap_byte x8
  have wr9 := wrap_byte x9
  have KS := Lib.hid (getAt xs n hl'.out b9' o9 (c - 12) w2.drew HXA.out 12 4 (by omega) (by omega) (by omega) _ rfl)
  have KD := Lib.hid (getAt xs n hl'.out b9' o9 (c - 16) w2.drew HXA.out 16 4 (by omega) (by omega) (by omega) _ rfl)
  have KI := Lib.hid (getAt xs n hl'.out b9' o9 (c - 4) w2.drew HXA.out 4 2 (by omega) (by omega) (by omega) _ rfl)
  have KL := Lib.hid (clone ((xs.take L).drop N) (L - N) (by rw [List.length_drop, List.length_take, hl'.out]; omega) (some ⟨b9', o9 + N, none⟩) (c - N) w2.drew (cutAt HXA.out N L (by have := hl'.out; omega) (by have := hl'.out; omega)) (by omega))
  have hne : b9' ≠ w.heap.size := by omega
  have hne' : w.heap.size ≠ b9' := by omega
  go_region_held3 (fun w' => w'.cell? ⟨b9', o9 + 8, none⟩ = some (.int .u8 (x8.toNat : Int)) ∧ w'.cell? ⟨b9', o9 + 9, none⟩ = some (.int .u8 (x9.toNat : Int))) (go_keep)
    (first
      | (go_at_call 117; (with_reducible refine KS.out.mono ?_); rintro e w' ⟨rfl, rfl⟩)
      | (go_at_call 117; (with_reducible refine KD.out.mono ?_); rintro e w' ⟨rfl, rfl⟩)
      | (go_at_call 117; (with_reducible refine KI.out.mono ?_); rintro e w' ⟨rfl, rfl⟩)
      | (go_at_call 80; (with_reducible refine KL.out.mono ?_); rintro e w3 ⟨A3, c3, rfl, hown3, hb3⟩; obtain ⟨z0, z1, z2, z3, z4, z5⟩ := HZ.out.1.below hb3 (by omega); have e8 := (cellB hb3 (by omega)).trans HZ.out.2.2.1; have e9 := (cellB hb3 (by omega)).trans HZ.out.2.2.2; have y0 := (frozB hb3 (by omega)).trans (HZ.out.2.1 0); have y1 := (frozB hb3 (by omega)).trans (HZ.out.2.1 1); have y2 := (frozB hb3 (by omega)).trans (HZ.out.2.1 2); have y3 := (frozB hb3 (by omega)).trans (HZ.out.2.1 3); have y4 := (frozB hb3 (by omega)).trans (HZ.out.2.1 4); have y5 := (frozB hb3 (by omega)).trans (HZ.out.2.1 5)))
  have hp4 := set6_at (w := w3) (g := w.heap.size) ⟨z0, z1, z2, z3, z4, z5⟩ (num2 xs 12 4) (num2 xs 16 4) (x9.toNat : Int) (x8.toNat : Int) (num2 xs 4 2) (.slice A3 (L - N) c3)
  have hg4 := set6_grown w3 w.heap.size (.int .i64 (num2 xs 12 4)) (.int .i64 (num2 xs 16 4)) (.int .i64 (x9.toNat : Int)) (.int .i64 (x8.toNat : Int)) (.int .i64 (num2 xs 4 2)) (.slice A3 (L - N) c3)
  have ho4 := set6_only w3 w.heap.size (.int .i64 (num2 xs 12 4)) (.int .i64 (num2 xs 16 4)) (.int .i64 (x9.toNat : Int)) (.int .i64 (x8.toNat : Int)) (.int .i64 (num2 xs 4 2)) (.slice A3 (L - N) c3)
  have hown4 := hown3.kept hg4 (by
    rcases hv : (Value.slice A3 (L - N) c3).ownBlock with _ | k
    · exact Or.inl rfl
    · right
      have := (hown3.lt k hv).1
      intro e
      injection e with e
      omega)
  have hb4 := ho4.below _ _ ((HB.out.drew).trans (hb3.mono (by omega))) (Nat.le_refl _)
  clear z0 z1 z2 z3 z4 z5 y0 y1 y2 y3 y4 y5 e8 e9 hown3 hb3 KS KD KI KL hg4 ho4
  show Exit.then _ _ _ _ (set6 w3 w.heap.size (.int .i64 (num2 xs 12 4)) (.int .i64 (num2 xs 16 4)) (.int .i64 (x9.toNat : Int)) (.int .i64 (x8.toNat : Int)) (.int .i64 (num2 xs 4 2)) (.slice A3 (L - N) c3))
  generalize set6 w3 w.heap.size (.int .i64 (num2 xs 12 4)) (.int .i64 (num2 xs 16 4)) (.int .i64 (x9.toNat : Int)) (.int .i64 (x8.toNat : Int)) (.int .i64 (num2 xs 4 2)) (.slice A3 (L - N) c3) = w4 at hp4 hown4 hb4 ⊢
  obtain ⟨z0, z1, z2, z3, z4, z5⟩ := hp4
  go_wp2
  simp only [Exit.jump]
  refine bodyPost_ret (v := .tuple #[.agg #[.int .i64 (num2 xs 12 4), .int .i64 (num2 xs 16 4), .int .i64 (x9.toNat : Int), .int .i64 (x8.toNat : Int), .int .i64 (num2 xs 4 2), .slice A3 (L - N) c3], .int .i64 0]) (by simp [results, Tryz.results86, go_sem, z0, z1, z2, z3, z4, z5]) rfl ?_
  have hlen : ((xs.take L).drop N).length = L - N := by rw [List.length_drop, List.length_take, hl'.out]; omega
  have hP : parsed xs = ⟨num2 xs 12 4, num2 xs 16 4, (x9.toNat : Int), (x8.toNat : Int), num2 xs 4 2, (xs.take L).drop N⟩ := by
    unfold parsed
    rw [hL'.out, hNx'.out, b8_of hx9'.out, b8_of hx8'.out]
  rw [hP]
  refine ⟨A3, c3, ?_, ?_, hb4⟩
  · simp only [hlen]
  · simp only [hlen]
    exact own_base hown4 (by omega)

set_option maxRecDepth 100000 in
set_option maxHeartbeats 3200000 in
theorem ipParse_ok0 (xs : List UInt8) (n : Nat) (hl : xs.length = n) (b0 o0 : Nat) (w : World) (hx : RB w w.heap.size (some ⟨b0, o0, none⟩) xs) (hn : n ≤ 140737488351232)
    (h20 : ¬ n < 20) (x0 : UInt8) (hx0 : xs[0]? = some x0) (h4 : x0.toNat / 16 = 4) (hN : n = 4 * (x0.toNat % 16)) (hL : num2 xs 2 2 = n)
    (hS0 : Sm.check (xs.take n) = 0) (hF0 : num2 xs 6 2 % 16384 = 0) :
    Calls Tryz.prog 86 #[.slice (some ⟨b0, o0, none⟩) n n] w (PkParsed w (parsed xs, 0)) := by
  have hbA := (Below.refl w.heap.size w).alloc (Nat.le_refl _) (.cells #[.int .i64 0, .int .i64 0, .int .i64 0, .int .i64 0, .int .i64 0, .slice none 0 0] 89)
  obtain ⟨b0', o0', x0', had0, hb, hx0', c0⟩ := hx.get (k := 0) (by omega)
  obtain ⟨rfl, rfl⟩ := RB.same_at rfl had0
  rw [hx0] at hx0'
  injection hx0' with hx0'
  subst hx0'
  simp only [Nat.add_zero] at c0
  have i0 : 0 < n := by omega
  have h20' : ¬ (n : Int) < 20 := by omega
  have cA := (hbA.cell (p := ⟨b0', o0', none⟩) hb).trans c0
  have hxA := hx.next hbA
  have e15 := u8_and15 x0
  have hb8 : b8 xs 0 = x0.toNat := b8_of hx0
  have hNI : 4 * ((x0.toNat : Int) % 16) = (n : Int) := by omega
  have hNx : ipN xs = n := by unfold ipN; rw [hb8]; exact hN.symm
  have HB := Lib.hid hbA
  have e4 : ((x0.toNat : Int) / 16 != 4) = false := by simp only [bne_eq_false_iff_eq]; omega
  have hN20' : ¬ (n : Int) < 20 := by omega
  have hnN' : ¬ (n : Int) < (n : Int) := by omega
  have KG2 := Lib.hid (getAt xs n hl b0' o0' (n - 2) _ hxA 2 2 (by omega) (by omega) (by omega) n hL)
  have hLN' : ¬ (n : Int) < (n : Int) := by omega
  have hnL' : ¬ (n : Int) < (n : Int) := by omega
  obtain ⟨S, hS⟩ : ∃ S, Sm.check (xs.take n) = S := ⟨_, rfl⟩
  have KC := Lib.hid (hS ▸ sumCheck (xs.take n) n (by rw [List.length_take]; omega) (some ⟨b0', o0', none⟩) n _ (hxA.take n) (by omega))
  rw [hS0] at hS
  have hSq : ((S : Int) != 0) = false := by rw [← hS]; rfl
  obtain ⟨F, hF⟩ : ∃ F, num2 xs 6 2 = F := ⟨_, rfl⟩
  have hFl : F < 65536 := by rw [← hF]; exact num2_lt xs 6
  have KG6 := Lib.hid (getAt xs n hl b0' o0' (n - 6) _ hxA 6 2 (by omega) (by omega) (by omega) F hF)
  have hFb := andNot_frag F hFl
  rw [hF] at hF0
  have hFq : (((F % 16384 : Nat) : Int) != 0) = false := by simp only [bne_eq_false_iff_eq]; omega
  obtain ⟨b8', o8, x8, ad8, hb8', hx8, c8⟩ := hxA.get (k := 8) (by omega)
  obtain ⟨rfl, rfl⟩ := RB.same_at rfl ad8
  obtain ⟨b9', o9, x9, ad9, hb9', hx9, c9⟩ := hxA.get (k := 9) (by omega)
  obtain ⟨rfl, rfl⟩ := RB.same_at rfl ad9
  have i8 : (8 : Int) < (n : Int) := by omega
  have i9 : (9 : Int) < (n : Int) := by omega
  have HXA := Lib.hid hxA
  have hl' := Lib.hid hl
  have hx8' := Lib.hid hx8
  have hx9' := Lib.hid hx9
  have hF' := Lib.hid hF
  have hL' := Lib.hid hL
  have hNx' := Lib.hid hNx
  have hb8h := Lib.hid hb8
  clear hx hxA hl hx8 hx9 hx0 hb8 hNx hN hbA c0 hL hS hF had0
  go_enter Tryz.func86, Tryz.ntmps86
  go_wp2
  refine wp_scope_fwd 0 rfl ?_
  go_wp2_with fail
  (with_reducible refine KG2.out.mono ?_)
  rintro e w' ⟨rfl, rfl⟩
  go_wp2_with fail
  (with_reducible refine KC.out.mono ?_)
  rintro e w' ⟨rfl, rfl⟩
  go_wp2_with fail
  (with_reducible refine KG6.out.mono ?_)
  rintro e w' ⟨rfl, rfl⟩
  clear KG2 KC KG6
  go_wp2_with fail
  have hz : PkAt (w.alloc (.cells #[.int .i64 0, .int .i64 0, .int .i64 0, .int .i64 0, .int .i64 0, .slice none 0 0] 89)) w.heap.size 0 0 0 0 0 (.slice none 0 0) := PkAt.box w 0 0 0 0 0 _ _
  have hfz : ∀ k, (w.alloc (.cells #[.int .i64 0, .int .i64 0, .int .i64 0, .int .i64 0, .int .i64 0, .slice none 0 0] 89)).frozen? ⟨w.heap.size, k, none⟩ = false := fun k => World.frozen?_alloc_at _ _ _ k rfl
  have hsA : (w.alloc (.cells #[.int .i64 0, .int .i64 0, .int .i64 0, .int .i64 0, .int .i64 0, .slice none 0 0] 89)).heap.size = w.heap.size + 1 := World.size_alloc _ _
  clear hb9' hb8' cA
  generalize w.alloc (.cells #[.int .i64 0, .int .i64 0, .int .i64 0, .int .i64 0, .int .i64 0, .slice none 0 0] 89) = w2 at HB HXA c8 c9 hz hfz hsA ⊢
  have s1 : (16 : Int) ≤ (n : Int) := by omega
  have s2 : (20 : Int) ≤ (n : Int) := by omega
  have s3 : (6 : Int) ≤ (n : Int) := by omega
  have s4 : (n : Int) ≤ (n : Int) := by omega
  have u1 : ¬ n = 12 := by omega
  have u2 : ¬ n = 16 := by omega
  have u3 : ¬ n = 4 := by omega
  have hzd : PkAt w2.drew w.heap.size 0 0 0 0 0 (.slice none 0 0) := hz
  have hfzd : ∀ k, w2.drew.frozen? ⟨w.heap.size, k, none⟩ = false := hfz
  have c8d : w2.drew.cell? ⟨b9', o9 + 8, none⟩ = some (.int .u8 (x8.toNat : Int)) := c8
  have c9d : w2.drew.cell? ⟨b9', o9 + 9, none⟩ = some (.int .u8 (x9.toNat : Int)) := c9
  have hsAd : w2.drew.heap.size = w.heap.size + 1 := hsA
  have HZ := Lib.hid (And.intro hzd (And.intro hfzd (And.intro c8d c9d)))
  clear hzd hfzd c8d c9d hz hfz
  have wr8 := wrap_byte x8
  have wr9 := wrap_byte x9
  have KS := Lib.hid (getAt xs n hl'.out b9' o9 (n - 12) w2.drew HXA.out 12 4 (by omega) (by omega) (by omega) _ rfl)
  have KD := Lib.hid (getAt xs n hl'.out b9' o9 (n - 16) w2.drew HXA.out 16 4 (by omega) (by omega) (by omega) _ rfl)
  have KI := Lib.hid (getAt xs n hl'.out b9' o9 (n - 4) w2.drew HXA.out 4 2 (by omega) (by omega) (by omega) _ rfl)
  have KL := Lib.hid (clone [] 0 rfl (some ⟨b9', o9, none⟩) 0 w2.drew RB.nil (by omega))
  have hne : b9' ≠ w.heap.size := by omega
  have hne' : w.heap.size ≠ b9' := by omega
  go_region_held3 (fun w' => w'.cell? ⟨b9', o9 + 8, none⟩ = some (.int .u8 (x8.toNat : Int)) ∧ w'.cell? ⟨b9', o9 + 9, none⟩ = some (.int .u8 (x9.toNat : Int))) (go_keep)
    (first
      | (go_at_call 117; (with_reducible refine KS.out.mono ?_); rintro e w' ⟨rfl, rfl⟩)
      | (go_at_call 117; (with_reducible refine KD.out.mono ?_); rintro e w' ⟨rfl, rfl⟩)
      | (go_at_call 117; (with_reducible refine KI.out.mono ?_); rintro e w' ⟨rfl, rfl⟩)
      | (go_at_call 80; (with_reducible refine KL.out.mono ?_); rintro e w3 ⟨A3, c3, rfl, hown3, hb3⟩; obtain ⟨z0, z1, z2, z3, z4, z5⟩ := HZ.out.1.below hb3 (by omega); have e8 := (cellB hb3 (by omega)).trans HZ.out.2.2.1; have e9 := (cellB hb3 (by omega)).trans HZ.out.2.2.2; have y0 := (frozB hb3 (by omega)).trans (HZ.out.2.1 0); have y1 := (frozB hb3 (by omega)).trans (HZ.out.2.1 1); have y2 := (frozB hb3 (by omega)).trans (HZ.out.2.1 2); have y3 := (frozB hb3 (by omega)).trans (HZ.out.2.1 3); have y4 := (frozB hb3 (by omega)).trans (HZ.out.2.1 4); have y5 := (frozB hb3 (by omega)).trans (HZ.out.2.1 5)))
  have hp4 := set6_at (w := w3) (g := w.heap.size) ⟨z0, z1, z2, z3, z4, z5⟩ (num2 xs 12 4) (num2 xs 16 4) (x9.toNat : Int) (x8.toNat : Int) (num2 xs 4 2) (.slice A3 0 c3)
  have hg4 := set6_grown w3 w.heap.size (.int .i64 (num2 xs 12 4)) (.int .i64 (num2 xs 16 4)) (.int .i64 (x9.toNat : Int)) (.int .i64 (x8.toNat : Int)) (.int .i64 (num2 xs 4 2)) (.slice A3 0 c3)
  have ho4 := set6_only w3 w.heap.size (.int .i64 (num2 xs 12 4)) (.int .i64 (num2 xs 16 4)) (.int .i64 (x9.toNat : Int)) (.int .i64 (x8.toNat : Int)) (.int .i64 (num2 xs 4 2)) (.slice A3 0 c3)
  have hown4 := hown3.kept hg4 (by
    rcases hv : (Value.slice A3 0 c3).ownBlock with _ | k
    · exact Or.inl rfl
    · right
      have := (hown3.lt k hv).1
      intro e
      injection e with e
      omega)
  have hb4 := ho4.below _ _ ((HB.out.drew).trans (hb3.mono (by omega))) (Nat.le_refl _)
  clear z0 z1 z2 z3 z4 z5 y0 y1 y2 y3 y4 y5 e8 e9 hown3 hb3 KS KD KI KL hg4 ho4
  show Exit.then _ _ _ _ (set6 w3 w.heap.size (.int .i64 (num2 xs 12 4)) (.int .i64 (num2 xs 16 4)) (.int .i64 (x9.toNat : Int)) (.int .i64 (x8.toNat : Int)) (.int .i64 (num2 xs 4 2)) (.slice A3 0 c3))
  generalize set6 w3 w.heap.size (.int .i64 (num2 xs 12 4)) (.int .i64 (num2 xs 16 4)) (.int .i64 (x9.toNat : Int)) (.int .i64 (x8.toNat : Int)) (.int .i64 (num2 xs 4 2)) (.slice A3 0 c3) = w4 at hp4 hown4 hb4 ⊢
  obtain ⟨z0, z1, z2, z3, z4, z5⟩ := hp4
  go_wp2
  simp only [Exit.jump]
  refine bodyPost_ret (v := .tuple #[.agg #[.int .i64 (num2 xs 12 4), .int .i64 (num2 xs 16 4), .int .i64 (x9.toNat : Int), .int .i64 (x8.toNat : Int), .int .i64 (num2 xs 4 2), .slice A3 0 c3], .int .i64 0]) (by simp [results, Tryz.results86, go_sem, z0, z1, z2, z3, z4, z5]) rfl ?_
  have hlen : ((xs.take n).drop n).length = 0 := by rw [List.length_drop, List.length_take, hl'.out]; omega
  have hP : parsed xs = ⟨num2 xs 12 4, num2 xs 16 4, (x9.toNat : Int), (x8.toNat : Int), num2 xs 4 2, (xs.take n).drop n⟩ := by
    unfold parsed
    rw [hL'.out, hNx'.out, b8_of hx9'.out, b8_of hx8'.out]
  rw [hP]
  refine ⟨A3, c3, ?_, ?_, hb4⟩
  · simp only [hlen]
  · simp only [hlen]
    rw [List.eq_nil_of_length_eq_zero hlen]
    exact own_base hown4 (by omega)

set_option maxRecDepth 100000 in
set_option maxHeartbeats 3200000 in
theorem ipParse (xs : List UInt8) (n : Nat) (hl : xs.length = n) (A : Option Addr) (c : Nat) (hnc : n ≤ c) (w : World) (hx : RB w w.heap.size A xs) (hn : n ≤ 140737488351232) :
    Calls Tryz.prog 86 #[.slice A n c] w (PkParsed w (parseOut xs)) := by
  have hbA := (Below.refl w.heap.size w).alloc (Nat.le_refl _) (.cells #[.int .i64 0, .int .i64 0, .int .i64 0, .int .i64 0, .int .i64 0, .slice none 0 0] 89)
  by_cases h20 : n < 20
  · have HR := Lib.hid (parse_1 (xs := xs) (by omega))
    have h20' : (n : Int) < 20 := by omega
    have HB := Lib.hid hbA
    clear hl hbA
    go_enter Tryz.func86, Tryz.ntmps86
    go_wp2
    refine wp_scope_fwd 0 rfl ?_
    go_wp2
    go_step3
    refine ⟨rfl, ?_⟩
    go_wp2
    simp only [Exit.jump]
    refine bodyPost_ret (v := .tuple #[.agg #[.int .i64 0, .int .i64 0, .int .i64 0, .int .i64 0, .int .i64 0, .slice none 0 0], .int .i64 7]) (by simp [results, Tryz.results86, go_sem]) rfl ?_
    rw [HR.out]
    exact parsed_none w 7 _ HB.out
  · obtain ⟨b0, o0, x0, rfl, hb, hx0, c0⟩ := hx.get (k := 0) (by omega)
    simp only [Nat.add_zero] at c0
    have i0 : 0 < n := by omega
    have h20' : ¬ (n : Int) < 20 := by omega
    have cA := (hbA.cell (p := ⟨b0, o0, none⟩) hb).trans c0
    have hxA := hx.next hbA
    have e15 := u8_and15 x0
    have hb8 : b8 xs 0 = x0.toNat := b8_of hx0
    obtain ⟨N, hN⟩ : ∃ N, N = 4 * (x0.toNat % 16) := ⟨_, rfl⟩
    have hNI : 4 * ((x0.toNat : Int) % 16) = (N : Int) := by omega
    have hNx : ipN xs = N := by unfold ipN; rw [hb8]; exact hN.symm
    have HB := Lib.hid hbA
    by_cases h4 : x0.toNat / 16 = 4
    · have e4 : ((x0.toNat : Int) / 16 != 4) = false := by simp only [bne_eq_false_iff_eq]; omega
      by_cases hN20 : N < 20
      · have hN20' : (N : Int) < 20 := by omega
        have HR : Hid (parseOut xs = (.zero, 1)) := by unfold Hid parseOut; rw [hb8, hNx, hl, if_neg (by omega), if_pos (by omega)]
        clear hl hx0 hb8 hNx hN hbA c0
        go_enter Tryz.func86, Tryz.ntmps86
        go_wp2
        refine wp_scope_fwd 0 rfl ?_
        go_wp2
        go_step3
        refine ⟨rfl, ?_⟩
        go_wp2
        simp only [Exit.jump]
        refine bodyPost_ret (v := .tuple #[.agg #[.int .i64 0, .int .i64 0, .int .i64 0, .int .i64 0, .int .i64 0, .slice none 0 0], .int .i64 1]) (by simp [results, Tryz.results86, go_sem]) rfl ?_
        rw [HR.out]
        exact parsed_none w 1 _ HB.out
      · have hN20' : ¬ (N : Int) < 20 := by omega
        by_cases hnN : n < N
        · have hnN' : (n : Int) < (N : Int) := by omega
          have HR : Hid (parseOut xs = (.zero, 7)) := by unfold Hid parseOut; rw [hb8, hNx, hl, if_neg (by omega), if_neg (by omega), if_pos (by omega)]
          clear hl hx0 hb8 hNx hN hbA c0
          go_enter Tryz.func86, Tryz.ntmps86
          go_wp2
          refine wp_scope_fwd 0 rfl ?_
          go_wp2
          go_step3
          refine ⟨rfl, ?_⟩
          go_wp2
          simp only [Exit.jump]
          refine bodyPost_ret (v := .tuple #[.agg #[.int .i64 0, .int .i64 0, .int .i64 0, .int .i64 0, .int .i64 0, .slice none 0 0], .int .i64 7]) (by simp [results, Tryz.results86, go_sem]) rfl ?_
          rw [HR.out]
          exact parsed_none w 7 _ HB.out
        · have hnN' : ¬ (n : Int) < (N : Int) := by omega
          obtain ⟨L, hL⟩ : ∃ L, num2 xs 2 2 = L := ⟨_, rfl⟩
          have KG2 := Lib.hid (getAt xs n hl b0 o0 (c - 2) _ hxA 2 2 (by omega) (by omega) (by omega) L hL)
          by_cases hLN : L < N
          · have hLN' : (L : Int) < (N : Int) := by omega
            have HR : Hid (parseOut xs = (.zero, 1)) := by unfold Hid parseOut; rw [hb8, hNx, hL, hl, if_neg (by omega), if_neg (by omega), if_neg (by omega), if_pos (by omega)]
            clear hl hx0 hb8 hNx hN hbA c0 hL
            go_enter Tryz.func86, Tryz.ntmps86
            go_wp2
            refine wp_scope_fwd 0 rfl ?_
            go_wp2_with fail
            (with_reducible refine KG2.out.mono ?_)
            rintro e w' ⟨rfl, rfl⟩
            go_wp2
            go_step3
            refine ⟨rfl, ?_⟩
            go_wp2
            simp only [Exit.jump]
            refine bodyPost_ret (v := .tuple #[.agg #[.int .i64 0, .int .i64 0, .int .i64 0, .int .i64 0, .int .i64 0, .slice none 0 0], .int .i64 1]) (by simp [results, Tryz.results86, go_sem]) rfl ?_
            rw [HR.out]
            exact parsed_none w 1 _ HB.out
          · have hLN' : ¬ (L : Int) < (N : Int) := by omega
            by_cases hnL : n < L
            · have hnL' : (n : Int) < (L : Int) := by omega
              have HR : Hid (parseOut xs = (.zero, 7)) := by unfold Hid parseOut; rw [hb8, hNx, hL, hl, if_neg (by omega), if_neg (by omega), if_neg (by omega), if_neg (by omega), if_pos (by omega)]
              clear hl hx0 hb8 hNx hN hbA c0 hL
              go_enter Tryz.func86, Tryz.ntmps86
              go_wp2
              refine wp_scope_fwd 0 rfl ?_
              go_wp2_with fail
              (with_reducible refine KG2.out.mono ?_)
              rintro e w' ⟨rfl, rfl⟩
              go_wp2
              go_step3
              refine ⟨rfl, ?_⟩
              go_wp2
              simp only [Exit.jump]
              refine bodyPost_ret (v := .tuple #[.agg #[.int .i64 0, .int .i64 0, .int .i64 0, .int .i64 0, .int .i64 0, .slice none 0 0], .int .i64 7]) (by simp [results, Tryz.results86, go_sem]) rfl ?_
              rw [HR.out]
              exact parsed_none w 7 _ HB.out
            · have hnL' : ¬ (n : Int) < (L : Int) := by omega
              obtain ⟨S, hS⟩ : ∃ S, Sm.check (xs.take N) = S := ⟨_, rfl⟩
              have KC := Lib.hid (hS ▸ sumCheck (xs.take N) N (by rw [List.length_take]; omega) (some ⟨b0, o0, none⟩) c _ (hxA.take N) (by omega))
              by_cases hS0 : S = 0
              · have hSq : ((S : Int) != 0) = false := by rw [hS0]; rfl
                obtain ⟨F, hF⟩ : ∃ F, num2 xs 6 2 = F := ⟨_, rfl⟩
                have hFl : F < 65536 := by rw [← hF]; exact num2_lt xs 6
                have KG6 := Lib.hid (getAt xs n hl b0 o0 (c - 6) _ hxA 6 2 (by omega) (by omega) (by omega) F hF)
                have hFb := andNot_frag F hFl
                by_cases hF0 : F % 16384 = 0
                · have hP : parseOut xs = (parsed xs, 0) := by
                    unfold parseOut
                    rw [hb8, hNx, hL, hS, hF, hl, if_neg (by omega), if_neg (by omega), if_neg (by omega), if_neg (by omega), if_neg (by omega), if_neg (by omega), if_neg (by omega)]
                  rw [hP]
                  by_cases hcN : c = N
                  · have e1 : L = N := by omega
                    have e2 : n = N := by omega
                    subst e1 hcN e2
                    exact ipParse_ok0 xs n hl b0 o0 w hx hn h20 x0 hx0 h4 hN hL (hS ▸ hS0) (hF ▸ hF0)
                  · exact ipParse_ok xs n hl b0 o0 c hnc w hx hn h20 x0 hx0 h4 N hN hN20 hnN L hL hLN hnL (hS ▸ hS0) (hF ▸ hF0) hcN
                · have hFq : (((F % 16384 : Nat) : Int) != 0) = true := by simp only [bne_iff_ne, ne_eq]; omega
                  have HR : Hid (parseOut xs = (.zero, 9)) := by unfold Hid parseOut; rw [hb8, hNx, hL, hS, hF, hl, if_neg (by omega), if_neg (by omega), if_neg (by omega), if_neg (by omega), if_neg (by omega), if_neg (by omega), if_pos (by omega)]
                  clear hl hx0 hb8 hNx hN hbA c0 hL hS hF
                  go_enter Tryz.func86, Tryz.ntmps86
                  go_wp2
                  refine wp_scope_fwd 0 rfl ?_
                  go_wp2_with fail
                  (with_reducible refine KG2.out.mono ?_)
                  rintro e w' ⟨rfl, rfl⟩
                  go_wp2_with fail
                  (with_reducible refine KC.out.mono ?_)
                  rintro e w' ⟨rfl, rfl⟩
                  go_wp2_with fail
                  (with_reducible refine KG6.out.mono ?_)
                  rintro e w' ⟨rfl, rfl⟩
                  go_wp2
                  go_step3
                  refine ⟨rfl, ?_⟩
                  go_wp2
                  simp only [Exit.jump]
                  refine bodyPost_ret (v := .tuple #[.agg #[.int .i64 0, .int .i64 0, .int .i64 0, .int .i64 0, .int .i64 0, .slice none 0 0], .int .i64 9]) (by simp [results, Tryz.results86, go_sem]) rfl ?_
                  rw [HR.out]
                  exact parsed_none w 9 _ HB.out
              · have hSq : ((S : Int) != 0) = true := by simp only [bne_iff_ne, ne_eq]; omega
                have HR : Hid (parseOut xs = (.zero, 8)) := by unfold Hid parseOut; rw [hb8, hNx, hL, hS, hl, if_neg (by omega), if_neg (by omega), if_neg (by omega), if_neg (by omega), if_neg (by omega), if_pos (by omega)]
                clear hl hx0 hb8 hNx hN hbA c0 hL hS
                go_enter Tryz.func86, Tryz.ntmps86
                go_wp2
                refine wp_scope_fwd 0 rfl ?_
                go_wp2_with fail
                (with_reducible refine KG2.out.mono ?_)
                rintro e w' ⟨rfl, rfl⟩
                go_wp2_with fail
                (with_reducible refine KC.out.mono ?_)
                rintro e w' ⟨rfl, rfl⟩
                go_wp2
                go_step3
                refine ⟨rfl, ?_⟩
                go_wp2
                simp only [Exit.jump]
                refine bodyPost_ret (v := .tuple #[.agg #[.int .i64 0, .int .i64 0, .int .i64 0, .int .i64 0, .int .i64 0, .slice none 0 0], .int .i64 8]) (by simp [results, Tryz.results86, go_sem]) rfl ?_
                rw [HR.out]
                exact parsed_none w 8 _ HB.out
    · have e4 : ((x0.toNat : Int) / 16 != 4) = true := by simp only [bne_iff_ne, ne_eq]; omega
      have HR : Hid (parseOut xs = (.zero, 1)) := by unfold Hid parseOut; rw [hb8, hNx, hl, if_neg (by omega), if_pos (by omega)]
      clear hl hx0 hb8 hNx hN hbA c0
      go_enter Tryz.func86, Tryz.ntmps86
      go_wp2
      refine wp_scope_fwd 0 rfl ?_
      go_wp2
      go_step3
      refine ⟨rfl, ?_⟩
      go_wp2
      simp only [Exit.jump]
      refine bodyPost_ret (v := .tuple #[.agg #[.int .i64 0, .int .i64 0, .int .i64 0, .int .i64 0, .int .i64 0, .slice none 0 0], .int .i64 1]) (by simp [results, Tryz.results86, go_sem]) rfl ?_
      rw [HR.out]
      exact parsed_none w 1 _ HB.out

end Go.Proofs.YtlacidnnankjlaaGreatDoor

/-
  The walk of the document's ParsePacket.
-/
namespace Go.Proofs.YtlacidnnankjlaaGreatDoor
open Go.RowKit

set_option maxRecDepth 100000 in
set_option maxHeartbeats 3200000 in
theorem refParse_ok (xs : List UInt8) (n : Nat) (hl : xs.length = n) (b0 o0 : Nat) (c : Nat) (hnc : n ≤ c) (w : World) (hx : RB w w.heap.size (some ⟨b0, o0, none⟩) xs) (hn : n ≤ 140737488351232)
    (h20 : ¬ n < 20) (x0 : UInt8) (hx0 : xs[0]? = some x0) (h4 : x0.toNat / 16 = 4) (N : Nat) (hN : N = 4 * (x0.toNat % 16)) (hN20 : ¬ N < 20) (hnN : ¬ n < N) (L : Nat) (hL : num2 xs 2 2 = L) (hLN : ¬ L < N) (hnL : ¬ n < L)
    (hS0 : Sm.check (xs.take N) = 0) (hF0 : num2 xs 6 2 % 16384 = 0) (hcN : ¬ c = N) :
    Calls Tryz.prog 96 #[.slice (some ⟨b0, o0, none⟩) n c] w (PkParsed w (parsed xs, 0)) := by
  have hbA := (Below.refl w.heap.size w).alloc (Nat.le_refl _) (.cells #[.int .i64 0, .int .i64 0, .int .i64 0, .int .i64 0, .int .i64 0, .slice none 0 0] 89)
  obtain ⟨b0', o0', x0', had0, hb, hx0', c0⟩ := hx.get (k := 0) (by omega)
  obtain ⟨rfl, rfl⟩ := RB.same_at rfl had0
  rw [hx0] at hx0'
  injection hx0' with hx0'
  subst hx0'
  simp only [Nat.add_zero] at c0
  have i0 : 0 < n := by omega
  have h20' : ¬ (n : Int) < 20 := by omega
  have cA := (hbA.cell (p := ⟨b0', o0', none⟩) hb).trans c0
  have hxA := hx.next hbA
  have e15 := u8_and15 x0
  have hb8 : b8 xs 0 = x0.toNat := b8_of hx0
  have hNI : 4 * ((x0.toNat : Int) % 16) = (N : Int) := by omega
  have hNx : ipN xs = N := by unfold ipN; rw [hb8]; exact hN.symm
  have HB := Lib.hid hbA
  have e4 : ((x0.toNat : Int) / 16 != 4) = false := by simp only [bne_eq_false_iff_eq]; omega
  have hN20' : ¬ (N : Int) < 20 := by omega
  have hnN' : ¬ (n : Int) < (N : Int) := by omega
  have KG2 := Lib.hid (ofAt xs n hl b0' o0' (c - 2) _ hxA 2 2 (by omega) (by omega) (by omega) L hL)
  have hLN' : ¬ (L : Int) < (N : Int) := by omega
  have hnL' : ¬ (n : Int) < (L : Int) := by omega
  obtain ⟨S, hS⟩ : ∃ S, Sm.check (xs.take N) = S := ⟨_, rfl⟩
  have KC := Lib.hid (hS ▸ refCheck (xs.take N) N (by rw [List.length_take]; omega) (some ⟨b0', o0', none⟩) c _ (hxA.take N) (by omega))
  rw [hS0] at hS
  have hSq : ((S : Int) != 0) = false := by rw [← hS]; rfl
  obtain ⟨F, hF⟩ : ∃ F, num2 xs 6 2 = F := ⟨_, rfl⟩
  have hFl : F < 65536 := by rw [← hF]; exact num2_lt xs 6
  have KG6 := Lib.hid (ofAt xs n hl b0' o0' (c - 6) _ hxA 6 2 (by omega) (by omega) (by omega) F hF)
  have hFb := and_frag F hFl
  rw [hF] at hF0
  have hFq : (((F % 16384 : Nat) : Int) != 0) = false := by simp only [bne_eq_false_iff_eq]; omega
  obtain ⟨b8', o8, x8, ad8, hb8', hx8, c8⟩ := hxA.get (k := 8) (by omega)
  obtain ⟨rfl, rfl⟩ := RB.same_at rfl ad8
  obtain ⟨b9', o9, x9, ad9, hb9', hx9, c9⟩ := hxA.get (k := 9) (by omega)
  obtain ⟨rfl, rfl⟩ := RB.same_at rfl ad9
  have i8 : (8 : Int) < (n : Int) := by omega
  have i9 : (9 : Int) < (n : Int) := by omega
  have HXA := Lib.hid hxA
  have hl' := Lib.hid hl
  have hx8' := Lib.hid hx8
  have hx9' := Lib.hid hx9
  have hF' := Lib.hid hF
  have hL' := Lib.hid hL
  have hNx' := Lib.hid hNx
  have hb8h := Lib.hid hb8
  clear hx hxA hl hx8 hx9 hx0 hb8 hNx hN hbA c0 hL hS hF had0
  go_enter Tryz.func96, Tryz.ntmps96
  go_wp2_with fail
  (with_reducible refine KG2.out.mono ?_)
  rintro e w' ⟨rfl, rfl⟩
  go_wp2_with fail
  (with_reducible refine KC.out.mono ?_)
  rintro e w' ⟨rfl, rfl⟩
  go_wp2_with fail
  (with_reducible refine KG6.out.mono ?_)
  rintro e w' ⟨rfl, rfl⟩
  clear KG2 KC KG6
  go_wp2_with fail
  have hz : PkAt (w.alloc (.cells #[.int .i64 0, .int .i64 0, .int .i64 0, .int .i64 0, .int .i64 0, .slice none 0 0] 89)) w.heap.size 0 0 0 0 0 (.slice none 0 0) := PkAt.box w 0 0 0 0 0 _ _
  have hfz : ∀ k, (w.alloc (.cells #[.int .i64 0, .int .i64 0, .int .i64 0, .int .i64 0, .int .i64 0, .slice none 0 0] 89)).frozen? ⟨w.heap.size, k, none⟩ = false := fun k => World.frozen?_alloc_at _ _ _ k rfl
  have hsA : (w.alloc (.cells #[.int .i64 0, .int .i64 0, .int .i64 0, .int .i64 0, .int .i64 0, .slice none 0 0] 89)).heap.size = w.heap.size + 1 := World.size_alloc _ _
  clear hb9' hb8' cA
  generalize w.alloc (.cells #[.int .i64 0, .int .i64 0, .int .i64 0, .int .i64 0, .int .i64 0, .slice none 0 0] 89) = w2 at HB HXA c8 c9 hz hfz hsA ⊢
  have s1 : (16 : Int) ≤ (c : Int) := by omega
  have s2 : (20 : Int) ≤ (c : Int) := by omega
  have s3 : (6 : Int) ≤ (c : Int) := by omega
  have s4 : (L : Int) ≤ (c : Int) := by omega
  have u1 : ¬ c = 12 := by omega
  have u2 : ¬ c = 16 := by omega
  have u3 : ¬ c = 4 := by omega
  have hzd : PkAt w2.drew w.heap.size 0 0 0 0 0 (.slice none 0 0) := hz
  have hfzd : ∀ k, w2.drew.frozen? ⟨w.heap.size, k, none⟩ = false := hfz
  have c8d : w2.drew.cell? ⟨b9', o9 + 8, none⟩ = some (.int .u8 (x8.toNat : Int)) := c8
  have c9d : w2.drew.cell? ⟨b9', o9 + 9, none⟩ = some (.int .u8 (x9.toNat : Int)) := c9
  have hsAd : w2.drew.heap.size = w.heap.size + 1 := hsA
  have HZ := Lib.hid (And.intro hzd (And.intro hfzd (And.intro c8d c9d)))
  clear hzd hfzd c8d c9d hz hfz
  have wr8 := wrap_byte x8
  have wr9 := wrap_byte x9
  have KS := Lib.hid (ofAt xs n hl'.out b9' o9 (c - 12) w2.drew HXA.out 12 4 (by omega) (by omega) (by omega) _ rfl)
  have KD := Lib.hid (ofAt xs n hl'.out b9' o9 (c - 16) w2.drew HXA.out 16 4 (by omega) (by omega) (by omega) _ rfl)
  have KI := Lib.hid (ofAt xs n hl'.out b9' o9 (c - 4) w2.drew HXA.out 4 2 (by omega) (by omega) (by omega) _ rfl)
  have KL := Lib.hid (copyN ((xs.take L).drop N) (L - N) (by rw [List.length_drop, List.length_take, hl'.out]; omega) (some ⟨b9', o9 + N, none⟩) (c - N) w2.drew (cutAt HXA.out N L (by have := hl'.out; omega) (by have := hl'.out; omega)) (by omega))
  have hne : b9' ≠ w.heap.size := by omega
  have hne' : w.heap.size ≠ b9' := by omega
  go_region_held3 (fun w' => w'.cell? ⟨b9', o9 + 8, none⟩ = some (.int .u8 (x8.toNat : Int)) ∧ w'.cell? ⟨b9', o9 + 9, none⟩ = some (.int .u8 (x9.toNat : Int))) (go_keep)
    (first
      | (go_at_call 107; (with_reducible refine KS.out.mono ?_); rintro e w' ⟨rfl, rfl⟩)
      | (go_at_call 107; (with_reducible refine KD.out.mono ?_); rintro e w' ⟨rfl, rfl⟩)
      | (go_at_call 107; (with_reducible refine KI.out.mono ?_); rintro e w' ⟨rfl, rfl⟩)
      | (go_at_call 59; (with_reducible refine KL.out.mono ?_); rintro e w3 ⟨A3, c3, rfl, hown3, hb3⟩; obtain ⟨z0, z1, z2, z3, z4, z5⟩ := HZ.out.1.below hb3 (by omega); have e8 := (cellB hb3 (by omega)).trans HZ.out.2.2.1; have e9 := (cellB hb3 (by omega)).trans HZ.out.2.2.2; have y0 := (frozB hb3 (by omega)).trans (HZ.out.2.1 0); have y1 := (frozB hb3 (by omega)).trans (HZ.out.2.1 1); have y2 := (frozB hb3 (by omega)).trans (HZ.out.2.1 2); have y3 := (frozB hb3 (by omega)).trans (HZ.out.2.1 3); have y4 := (frozB hb3 (by omega)).trans (HZ.out.2.1 4); have y5 := (frozB hb3 (by omega)).trans (HZ.out.2.1 5)))
  have hp4 := set6_at (w := w3) (g := w.heap.size) ⟨z0, z1, z2, z3, z4, z5⟩ (num2 xs 12 4) (num2 xs 16 4) (x9.toNat : Int) (x8.toNat : Int) (num2 xs 4 2) (.slice A3 (L - N) c3)
  have hg4 := set6_grown w3 w.heap.size (.int .i64 (num2 xs 12 4)) (.int .i64 (num2 xs 16 4)) (.int .i64 (x9.toNat : Int)) (.int .i64 (x8.toNat : Int)) (.int .i64 (num2 xs 4 2)) (.slice A3 (L - N) c3)
  have ho4 := set6_only w3 w.heap.size (.int .i64 (num2 xs 12 4)) (.int .i64 (num2 xs 16 4)) (.int .i64 (x9.toNat : Int)) (.int .i64 (x8.toNat : Int)) (.int .i64 (num2 xs 4 2)) (.slice A3 (L - N) c3)
  have hown4 := hown3.kept hg4 (by
    rcases hv : (Value.slice A3 (L - N) c3).ownBlock with _ | k
    · exact Or.inl rfl
    · right
      have := (hown3.lt k hv).1
      intro e
      injection e with e
      omega)
  have hb4 := ho4.below _ _ ((HB.out.drew).trans (hb3.mono (by omega))) (Nat.le_refl _)
  clear z0 z1 z2 z3 z4 z5 y0 y1 y2 y3 y4 y5 e8 e9 hown3 hb3 KS KD KI KL hg4 ho4
  show Exit.then _ _ _ _ (set6 w3 w.heap.size (.int .i64 (num2 xs 12 4)) (.int .i64 (num2 xs 16 4)) (.int .i64 (x9.toNat : Int)) (.int .i64 (x8.toNat : Int)) (.int .i64 (num2 xs 4 2)) (.slice A3 (L - N) c3))
  generalize set6 w3 w.heap.size (.int .i64 (num2 xs 12 4)) (.int .i64 (num2 xs 16 4)) (.int .i64 (x9.toNat : Int)) (.int .i64 (x8.toNat : Int)) (.int .i64 (num2 xs 4 2)) (.slice A3 (L - N) c3) = w4 at hp4 hown4 hb4 ⊢
  obtain ⟨z0, z1, z2, z3, z4, z5⟩ := hp4
  go_wp2
  refine bodyPost_ret (v := .tuple #[.agg #[.int .i64 (num2 xs 12 4), .int .i64 (num2 xs 16 4), .int .i64 (x9.toNat : Int), .int .i64 (x8.toNat : Int), .int .i64 (num2 xs 4 2), .slice A3 (L - N) c3], .int .i64 0]) (by simp [results, Tryz.results96, go_sem, z0, z1, z2, z3, z4, z5]) rfl ?_
  have hlen : ((xs.take L).drop N).length = L - N := by rw [List.length_drop, List.length_take, hl'.out]; omega
  have hP : parsed xs = ⟨num2 xs 12 4, num2 xs 16 4, (x9.toNat : Int), (x8.toNat : Int), num2 xs 4 2, (xs.take L).drop N⟩ := by
    unfold parsed
    rw [hL'.out, hNx'.out, b8_of hx9'.out, b8_of hx8'.out]
  rw [hP]
  refine ⟨A3, c3, ?_, ?_, hb4⟩
  · simp only [hlen]
  · simp only [hlen]
    exact own_base hown4 (by omega)

set_option maxRecDepth 100000 in
set_option maxHeartbeats 3200000 in
theorem refParse_ok0 (xs : List UInt8) (n : Nat) (hl : xs.length = n) (b0 o0 : Nat) (w : World) (hx : RB w w.heap.size (some ⟨b0, o0, none⟩) xs) (hn : n ≤ 140737488351232)
    (h20 : ¬ n < 20) (x0 : UInt8) (hx0 : xs[0]? = some x0) (h4 : x0.toNat / 16 = 4) (hN : n = 4 * (x0.toNat % 16)) (hL : num2 xs 2 2 = n)
    (hS0 : Sm.check (xs.take n) = 0) (hF0 : num2 xs 6 2 % 16384 = 0) :
    Calls Tryz.prog 96 #[.slice (some ⟨b0, o0, none⟩) n n] w (PkParsed w (parsed xs, 0)) := by
  have hbA := (Below.refl w.heap.size w).alloc (Nat.le_refl _) (.cells #[.int .i64 0, .int .i64 0, .int .i64 0, .int .i64 0, .int .i64 0, .slice none 0 0] 89)
  obtain ⟨b0', o0', x0', had0, hb, hx0', c0⟩ := hx.get (k := 0) (by omega)
  obtain ⟨rfl, rfl⟩ := RB.same_at rfl had0
  rw [hx0] at hx0'
  injection hx0' with hx0'
  subst hx0'
  simp only [Nat.add_zero] at c0
  have i0 : 0 < n := by omega
  have h20' : ¬ (n : Int) < 20 := by omega
  have cA := (hbA.cell (p := ⟨b0', o0', none⟩) hb).trans c0
  have hxA := hx.next hbA
  have e15 := u8_and15 x0
  have hb8 : b8 xs 0 = x0.toNat := b8_of hx0
  have hNI : 4 * ((x0.toNat : Int) % 16) = (n : Int) := by omega
  have hNx : ipN xs = n := by unfold ipN; rw [hb8]; exact hN.symm
  have HB := Lib.hid hbA
  have e4 : ((x0.toNat : Int) / 16 != 4) = false := by simp only [bne_eq_false_iff_eq]; omega
  have hN20' : ¬ (n : Int) < 20 := by omega
  have hnN' : ¬ (n : Int) < (n : Int) := by omega
  have KG2 := Lib.hid (ofAt xs n hl b0' o0' (n - 2) _ hxA 2 2 (by omega) (by omega) (by omega) n hL)
  have hLN' : ¬ (n : Int) < (n : Int) := by omega
  have hnL' : ¬ (n : Int) < (n : Int) := by omega
  obtain ⟨S, hS⟩ : ∃ S, Sm.check (xs.take n) = S := ⟨_, rfl⟩
  have KC := Lib.hid (hS ▸ refCheck (xs.take n) n (by rw [List.length_take]; omega) (some ⟨b0', o0', none⟩) n _ (hxA.take n) (by omega))
  rw [hS0] at hS
  have hSq : ((S : Int) != 0) = false := by rw [← hS]; rfl
  obtain ⟨F, hF⟩ : ∃ F, num2 xs 6 2 = F := ⟨_, rfl⟩
  have hFl : F < 65536 := by rw [← hF]; exact num2_lt xs 6
  have KG6 := Lib.hid (ofAt xs n hl b0' o0' (n - 6) _ hxA 6 2 (by omega) (by omega) (by omega) F hF)
  have hFb := and_frag F hFl
  rw [hF] at hF0
  have hFq : (((F % 16384 : Nat) : Int) != 0) = false := by simp only [bne_eq_false_iff_eq]; omega
  obtain ⟨b8', o8, x8, ad8, hb8', hx8, c8⟩ := hxA.get (k := 8) (by omega)
  obtain ⟨rfl, rfl⟩ := RB.same_at rfl ad8
  obtain ⟨b9', o9, x9, ad9, hb9', hx9, c9⟩ := hxA.get (k := 9) (by omega)
  obtain ⟨rfl, rfl⟩ := RB.same_at rfl ad9
  have i8 : (8 : Int) < (n : Int) := by omega
  have i9 : (9 : Int) < (n : Int) := by omega
  have HXA := Lib.hid hxA
  have hl' := Lib.hid hl
  have hx8' := Lib.hid hx8
  have hx9' := Lib.hid hx9
  have hF' := Lib.hid hF
  have hL' := Lib.hid hL
  have hNx' := Lib.hid hNx
  have hb8h := Lib.hid hb8
  clear hx hxA hl hx8 hx9 hx0 hb8 hNx hN hbA c0 hL hS hF had0
  go_enter Tryz.func96, Tryz.ntmps96
  go_wp2_with fail
  (with_reducible refine KG2.out.mono ?_)
  rintro e w' ⟨rfl, rfl⟩
  go_wp2_with fail
  (with_reducible refine KC.out.mono ?_)
  rintro e w' ⟨rfl, rfl⟩
  go_wp2_with fail
  (with_reducible refine KG6.out.mono ?_)
  rintro e w' ⟨rfl, rfl⟩
  clear KG2 KC KG6
  go_wp2_with fail
  have hz : PkAt (w.alloc (.cells #[.int .i64 0, .int .i64 0, .int .i64 0, .int .i64 0, .int .i64 0, .slice none 0 0] 89)) w.heap.size 0 0 0 0 0 (.slice none 0 0) := PkAt.box w 0 0 0 0 0 _ _
  have hfz : ∀ k, (w.alloc (.cells #[.int .i64 0, .int .i64 0, .int .i64 0, .int .i64 0, .int .i64 0, .slice none 0 0] 89)).frozen? ⟨w.heap.size, k, none⟩ = false := fun k => World.frozen?_alloc_at _ _ _ k rfl
  have hsA : (w.alloc (.cells #[.int .i64 0, .int .i64 0, .int .i64 0, .int .i64 0, .int .i64 0, .slice none 0 0] 89)).heap.size = w.heap.size + 1 := World.size_alloc _ _
  clear hb9' hb8' cA
  generalize w.alloc (.cells #[.int .i64 0, .int .i64 0, .int .i64 0, .int .i64 0, .int .i64 0, .slice none 0 0] 89) = w2 at HB HXA c8 c9 hz hfz hsA ⊢
  have s1 : (16 : Int) ≤ (n : Int) := by omega
  have s2 : (20 : Int) ≤ (n : Int) := by omega
  have s3 : (6 : Int) ≤ (n : Int) := by omega
  have s4 : (n : Int) ≤ (n : Int) := by omega
  have u1 : ¬ n = 12 := by omega
  have u2 : ¬ n = 16 := by omega
  have u3 : ¬ n = 4 := by omega
  have hzd : PkAt w2.drew w.heap.size 0 0 0 0 0 (.slice none 0 0) := hz
  have hfzd : ∀ k, w2.drew.frozen? ⟨w.heap.size, k, none⟩ = false := hfz
  have c8d : w2.drew.cell? ⟨b9', o9 + 8, none⟩ = some (.int .u8 (x8.toNat : Int)) := c8
  have c9d : w2.drew.cell? ⟨b9', o9 + 9, none⟩ = some (.int .u8 (x9.toNat : Int)) := c9
  have hsAd : w2.drew.heap.size = w.heap.size + 1 := hsA
  have HZ := Lib.hid (And.intro hzd (And.intro hfzd (And.intro c8d c9d)))
  clear hzd hfzd c8d c9d hz hfz
  have wr8 := wrap_byte x8
  have wr9 := wrap_byte x9
  have KS := Lib.hid (ofAt xs n hl'.out b9' o9 (n - 12) w2.drew HXA.out 12 4 (by omega) (by omega) (by omega) _ rfl)
  have KD := Lib.hid (ofAt xs n hl'.out b9' o9 (n - 16) w2.drew HXA.out 16 4 (by omega) (by omega) (by omega) _ rfl)
  have KI := Lib.hid (ofAt xs n hl'.out b9' o9 (n - 4) w2.drew HXA.out 4 2 (by omega) (by omega) (by omega) _ rfl)
  have KL := Lib.hid (copyN [] 0 rfl (some ⟨b9', o9, none⟩) 0 w2.drew RB.nil (by omega))
  have hne : b9' ≠ w.heap.size := by omega
  have hne' : w.heap.size ≠ b9' := by omega
  go_region_held3 (fun w' => w'.cell? ⟨b9', o9 + 8, none⟩ = some (.int .u8 (x8.toNat : Int)) ∧ w'.cell? ⟨b9', o9 + 9, none⟩ = some (.int .u8 (x9.toNat : Int))) (go_keep)
    (first
      | (go_at_call 107; (with_reducible refine KS.out.mono ?_); rintro e w' ⟨rfl, rfl⟩)
      | (go_at_call 107; (with_reducible refine KD.out.mono ?_); rintro e w' ⟨rfl, rfl⟩)
      | (go_at_call 107; (with_reducible refine KI.out.mono ?_); rintro e w' ⟨rfl, rfl⟩)
      | (go_at_call 59; (with_reducible refine KL.out.mono ?_); rintro e w3 ⟨A3, c3, rfl, hown3, hb3⟩; obtain ⟨z0, z1, z2, z3, z4, z5⟩ := HZ.out.1.below hb3 (by omega); have e8 := (cellB hb3 (by omega)).trans HZ.out.2.2.1; have e9 := (cellB hb3 (by omega)).trans HZ.out.2.2.2; have y0 := (frozB hb3 (by omega)).trans (HZ.out.2.1 0); have y1 := (frozB hb3 (by omega)).trans (HZ.out.2.1 1); have y2 := (frozB hb3 (by omega)).trans (HZ.out.2.1 2); have y3 := (frozB hb3 (by omega)).trans (HZ.out.2.1 3); have y4 := (frozB hb3 (by omega)).trans (HZ.out.2.1 4); have y5 := (frozB hb3 (by omega)).trans (HZ.out.2.1 5)))
  have hp4 := set6_at (w := w3) (g := w.heap.size) ⟨z0, z1, z2, z3, z4, z5⟩ (num2 xs 12 4) (num2 xs 16 4) (x9.toNat : Int) (x8.toNat : Int) (num2 xs 4 2) (.slice A3 0 c3)
  have hg4 := set6_grown w3 w.heap.size (.int .i64 (num2 xs 12 4)) (.int .i64 (num2 xs 16 4)) (.int .i64 (x9.toNat : Int)) (.int .i64 (x8.toNat : Int)) (.int .i64 (num2 xs 4 2)) (.slice A3 0 c3)
  have ho4 := set6_only w3 w.heap.size (.int .i64 (num2 xs 12 4)) (.int .i64 (num2 xs 16 4)) (.int .i64 (x9.toNat : Int)) (.int .i64 (x8.toNat : Int)) (.int .i64 (num2 xs 4 2)) (.slice A3 0 c3)
  have hown4 := hown3.kept hg4 (by
    rcases hv : (Value.slice A3 0 c3).ownBlock with _ | k
    · exact Or.inl rfl
    · right
      have := (hown3.lt k hv).1
      intro e
      injection e with e
      omega)
  have hb4 := ho4.below _ _ ((HB.out.drew).trans (hb3.mono (by omega))) (Nat.le_refl _)
  clear z0 z1 z2 z3 z4 z5 y0 y1 y2 y3 y4 y5 e8 e9 hown3 hb3 KS KD KI KL hg4 ho4
  show Exit.then _ _ _ _ (set6 w3 w.heap.size (.int .i64 (num2 xs 12 4)) (.int .i64 (num2 xs 16 4)) (.int .i64 (x9.toNat : Int)) (.int .i64 (x8.toNat : Int)) (.int .i64 (num2 xs 4 2)) (.slice A3 0 c3))
  generalize set6 w3 w.heap.size (.int .i64 (num2 xs 12 4)) (.int .i64 (num2 xs 16 4)) (.int .i64 (x9.toNat : Int)) (.int .i64 (x8.toNat : Int)) (.int .i64 (num2 xs 4 2)) (.slice A3 0 c3) = w4 at hp4 hown4 hb4 ⊢
  obtain ⟨z0, z1, z2, z3, z4, z5⟩ := hp4
  go_wp2
  refine bodyPost_ret (v := .tuple #[.agg #[.int .i64 (num2 xs 12 4), .int .i64 (num2 xs 16 4), .int .i64 (x9.toNat : Int), .int .i64 (x8.toNat : Int), .int .i64 (num2 xs 4 2), .slice A3 0 c3], .int .i64 0]) (by simp [results, Tryz.results96, go_sem, z0, z1, z2, z3, z4, z5]) rfl ?_
  have hlen : ((xs.take n).drop n).length = 0 := by rw [List.length_drop, List.length_take, hl'.out]; omega
  have hP : parsed xs = ⟨num2 xs 12 4, num2 xs 16 4, (x9.toNat : Int), (x8.toNat : Int), num2 xs 4 2, (xs.take n).drop n⟩ := by
    unfold parsed
    rw [hL'.out, hNx'.out, b8_of hx9'.out, b8_of hx8'.out]
  rw [hP]
  refine ⟨A3, c3, ?_, ?_, hb4⟩
  · simp only [hlen]
  · simp only [hlen]
    rw [List.eq_nil_of_length_eq_zero hlen]
    exact own_base hown4 (by omega)

set_option maxRecDepth 100000 in
set_option maxHeartbeats 3200000 in
theorem refParsePk (xs : List UInt8) (n : Nat) (hl : xs.length = n) (A : Option Addr) (c : Nat) (hnc : n ≤ c) (w : World) (hx : RB w w.heap.size A xs) (hn : n ≤ 140737488351232) :
    Calls Tryz.prog 96 #[.slice A n c] w (PkParsed w (parseOut xs)) := by
  have hbA := (Below.refl w.heap.size w).alloc (Nat.le_refl _) (.cells #[.int .i64 0, .int .i64 0, .int .i64 0, .int .i64 0, .int .i64 0, .slice none 0 0] 89)
  by_cases h20 : n < 20
  · have HR := Lib.hid (parse_1 (xs := xs) (by omega))
    have h20' : (n : Int) < 20 := by omega
    have HB := Lib.hid hbA
    clear hl hbA
    go_enter Tryz.func96, Tryz.ntmps96
    go_wp2
    refine bodyPost_ret (v := .tuple #[.agg #[.int .i64 0, .int .i64 0, .int .i64 0, .int .i64 0, .int .i64 0, .slice none 0 0], .int .i64 7]) (by simp [results, Tryz.results96, go_sem]) rfl ?_
    rw [HR.out]
    exact parsed_none w 7 _ HB.out
  · obtain ⟨b0, o0, x0, rfl, hb, hx0, c0⟩ := hx.get (k := 0) (by omega)
    simp only [Nat.add_zero] at c0
    have i0 : 0 < n := by omega
    have h20' : ¬ (n : Int) < 20 := by omega
    have cA := (hbA.cell (p := ⟨b0, o0, none⟩) hb).trans c0
    have hxA := hx.next hbA
    have e15 := u8_and15 x0
    have hb8 : b8 xs 0 = x0.toNat := b8_of hx0
    obtain ⟨N, hN⟩ : ∃ N, N = 4 * (x0.toNat % 16) := ⟨_, rfl⟩
    have hNI : 4 * ((x0.toNat : Int) % 16) = (N : Int) := by omega
    have hNx : ipN xs = N := by unfold ipN; rw [hb8]; exact hN.symm
    have HB := Lib.hid hbA
    by_cases h4 : x0.toNat / 16 = 4
    · have e4 : ((x0.toNat : Int) / 16 != 4) = false := by simp only [bne_eq_false_iff_eq]; omega
      by_cases hN20 : N < 20
      · have hN20' : (N : Int) < 20 := by omega
        have HR : Hid (parseOut xs = (.zero, 1)) := by unfold Hid parseOut; rw [hb8, hNx, hl, if_neg (by omega), if_pos (by omega)]
        clear hl hx0 hb8 hNx hN hbA c0
        go_enter Tryz.func96, Tryz.ntmps96
        go_wp2
        refine bodyPost_ret (v := .tuple #[.agg #[.int .i64 0, .int .i64 0, .int .i64 0, .int .i64 0, .int .i64 0, .slice none 0 0], .int .i64 1]) (by simp [results, Tryz.results96, go_sem]) rfl ?_
        rw [HR.out]
        exact parsed_none w 1 _ HB.out
      · have hN20' : ¬ (N : Int) < 20 := by omega
        by_cases hnN : n < N
        · have hnN' : (n : Int) < (N : Int) := by omega
          have HR : Hid (parseOut xs = (.zero, 7)) := by unfold Hid parseOut; rw [hb8, hNx, hl, if_neg (by omega), if_neg (by omega), if_pos (by omega)]
          clear hl hx0 hb8 hNx hN hbA c0
          go_enter Tryz.func96, Tryz.ntmps96
          go_wp2
          refine bodyPost_ret (v := .tuple #[.agg #[.int .i64 0, .int .i64 0, .int .i64 0, .int .i64 0, .int .i64 0, .slice none 0 0], .int .i64 7]) (by simp [results, Tryz.results96, go_sem]) rfl ?_
          rw [HR.out]
          exact parsed_none w 7 _ HB.out
        · have hnN' : ¬ (n : Int) < (N : Int) := by omega
          obtain ⟨L, hL⟩ : ∃ L, num2 xs 2 2 = L := ⟨_, rfl⟩
          have KG2 := Lib.hid (ofAt xs n hl b0 o0 (c - 2) _ hxA 2 2 (by omega) (by omega) (by omega) L hL)
          by_cases hLN : L < N
          · have hLN' : (L : Int) < (N : Int) := by omega
            have HR : Hid (parseOut xs = (.zero, 1)) := by unfold Hid parseOut; rw [hb8, hNx, hL, hl, if_neg (by omega), if_neg (by omega), if_neg (by omega), if_pos (by omega)]
            clear hl hx0 hb8 hNx hN hbA c0 hL
            go_enter Tryz.func96, Tryz.ntmps96
            go_wp2_with fail
            (with_reducible refine KG2.out.mono ?_)
            rintro e w' ⟨rfl, rfl⟩
            go_wp2
            refine bodyPost_ret (v := .tuple #[.agg #[.int .i64 0, .int .i64 0, .int .i64 0, .int .i64 0, .int .i64 0, .slice none 0 0], .int .i64 1]) (by simp [results, Tryz.results96, go_sem]) rfl ?_
            rw [HR.out]
            exact parsed_none w 1 _ HB.out
          · have hLN' : ¬ (L : Int) < (N : Int) := by omega
            by_cases hnL : n < L
            · have hnL' : (n : Int) < (L : Int) := by omega
              have HR : Hid (parseOut xs = (.zero, 7)) := by unfold Hid parseOut; rw [hb8, hNx, hL, hl, if_neg (by omega), if_neg (by omega), if_neg (by omega), if_neg (by omega), if_pos (by omega)]
              clear hl hx0 hb8 hNx hN hbA c0 hL
              go_enter Tryz.func96, Tryz.ntmps96
              go_wp2_with fail
              (with_reducible refine KG2.out.mono ?_)
              rintro e w' ⟨rfl, rfl⟩
              go_wp2
              refine bodyPost_ret (v := .tuple #[.agg #[.int .i64 0, .int .i64 0, .int .i64 0, .int .i64 0, .int .i64 0, .slice none 0 0], .int .i64 7]) (by simp [results, Tryz.results96, go_sem]) rfl ?_
              rw [HR.out]
              exact parsed_none w 7 _ HB.out
            · have hnL' : ¬ (n : Int) < (L : Int) := by omega
              obtain ⟨S, hS⟩ : ∃ S, Sm.check (xs.take N) = S := ⟨_, rfl⟩
              have KC := Lib.hid (hS ▸ refCheck (xs.take N) N (by rw [List.length_take]; omega) (some ⟨b0, o0, none⟩) c _ (hxA.take N) (by omega))
              by_cases hS0 : S = 0
              · have hSq : ((S : Int) != 0) = false := by rw [hS0]; rfl
                obtain ⟨F, hF⟩ : ∃ F, num2 xs 6 2 = F := ⟨_, rfl⟩
                have hFl : F < 65536 := by rw [← hF]; exact num2_lt xs 6
                have KG6 := Lib.hid (ofAt xs n hl b0 o0 (c - 6) _ hxA 6 2 (by omega) (by omega) (by omega) F hF)
                have hFb := and_frag F hFl
                by_cases hF0 : F % 16384 = 0
                · have hP : parseOut xs = (parsed xs, 0) := by
                    unfold parseOut
                    rw [hb8, hNx, hL, hS, hF, hl, if_neg (by omega), if_neg (by omega), if_neg (by omega), if_neg (by omega), if_neg (by omega), if_neg (by omega), if_neg (by omega)]
                  rw [hP]
                  by_cases hcN : c = N
                  · have e1 : L = N := by omega
                    have e2 : n = N := by omega
                    subst e1 hcN e2
                    exact refParse_ok0 xs n hl b0 o0 w hx hn h20 x0 hx0 h4 hN hL (hS ▸ hS0) (hF ▸ hF0)
                  · exact refParse_ok xs n hl b0 o0 c hnc w hx hn h20 x0 hx0 h4 N hN hN20 hnN L hL hLN hnL (hS ▸ hS0) (hF ▸ hF0) hcN
                · have hFq : (((F % 16384 : Nat) : Int) != 0) = true := by simp only [bne_iff_ne, ne_eq]; omega
                  have HR : Hid (parseOut xs = (.zero, 9)) := by unfold Hid parseOut; rw [hb8, hNx, hL, hS, hF, hl, if_neg (by omega), if_neg (by omega), if_neg (by omega), if_neg (by omega), if_neg (by omega), if_neg (by omega), if_pos (by omega)]
                  clear hl hx0 hb8 hNx hN hbA c0 hL hS hF
                  go_enter Tryz.func96, Tryz.ntmps96
                  go_wp2_with fail
                  (with_reducible refine KG2.out.mono ?_)
                  rintro e w' ⟨rfl, rfl⟩
                  go_wp2_with fail
                  (with_reducible refine KC.out.mono ?_)
                  rintro e w' ⟨rfl, rfl⟩
                  go_wp2_with fail
                  (with_reducible refine KG6.out.mono ?_)
                  rintro e w' ⟨rfl, rfl⟩
                  go_wp2
                  refine bodyPost_ret (v := .tuple #[.agg #[.int .i64 0, .int .i64 0, .int .i64 0, .int .i64 0, .int .i64 0, .slice none 0 0], .int .i64 9]) (by simp [results, Tryz.results96, go_sem]) rfl ?_
                  rw [HR.out]
                  exact parsed_none w 9 _ HB.out
              · have hSq : ((S : Int) != 0) = true := by simp only [bne_iff_ne, ne_eq]; omega
                have HR : Hid (parseOut xs = (.zero, 8)) := by unfold Hid parseOut; rw [hb8, hNx, hL, hS, hl, if_neg (by omega), if_neg (by omega), if_neg (by omega), if_neg (by omega), if_neg (by omega), if_pos (by omega)]
                clear hl hx0 hb8 hNx hN hbA c0 hL hS
                go_enter Tryz.func96, Tryz.ntmps96
                go_wp2_with fail
                (with_reducible refine KG2.out.mono ?_)
                rintro e w' ⟨rfl, rfl⟩
                go_wp2_with fail
                (with_reducible refine KC.out.mono ?_)
                rintro e w' ⟨rfl, rfl⟩
                go_wp2
                refine bodyPost_ret (v := .tuple #[.agg #[.int .i64 0, .int .i64 0, .int .i64 0, .int .i64 0, .int .i64 0, .slice none 0 0], .int .i64 8]) (by simp [results, Tryz.results96, go_sem]) rfl ?_
                rw [HR.out]
                exact parsed_none w 8 _ HB.out
    · have e4 : ((x0.toNat : Int) / 16 != 4) = true := by simp only [bne_iff_ne, ne_eq]; omega
      have HR : Hid (parseOut xs = (.zero, 1)) := by unfold Hid parseOut; rw [hb8, hNx, hl, if_neg (by omega), if_pos (by omega)]
      clear hl hx0 hb8 hNx hN hbA c0
      go_enter Tryz.func96, Tryz.ntmps96
      go_wp2
      refine bodyPost_ret (v := .tuple #[.agg #[.int .i64 0, .int .i64 0, .int .i64 0, .int .i64 0, .int .i64 0, .slice none 0 0], .int .i64 1]) (by simp [results, Tryz.results96, go_sem]) rfl ?_
      rw [HR.out]
      exact parsed_none w 1 _ HB.out

end Go.Proofs.YtlacidnnankjlaaGreatDoor

/-
  The walk of the document's PacketBytes.
-/
namespace Go.Proofs.YtlacidnnankjlaaGreatDoor
open Go.RowKit

theorem lit6 (t p : Nat) (ht : t ≤ 255) (hp : p ≤ 255) : (#[Value.int .u8 64, .int .u8 0, .int .u8 (t : Int), .int .u8 (p : Int), .int .u8 0, .int .u8 0] : Array Value).toList = ([0x40, 0, UInt8.ofNat t, UInt8.ofNat p, 0, 0] : List UInt8).map bv := by
  simp only [List.map, bv, byte_n t ht, byte_n p hp]
  rfl
theorem splice_at (xs : List UInt8) (p : Nat) (u v : UInt8) (h : p + 1 < xs.length) : xs.take p ++ [u, v] ++ xs.drop (p + 2) = (xs.set p u).set (p + 1) v := splice2 xs p u v h

set_option maxRecDepth 100000 in
set_option maxHeartbeats 3200000 in
theorem refPBytes (s d p t i : Nat) (xs : List UInt8) (n : Nat) (hl : xs.length = n) (A : Option Addr) (c : Nat) (h : Pk.ok ⟨s, d, p, t, i, xs⟩ = true) (w : World) (hx : RB w w.heap.size A xs) :
    Calls Tryz.prog 55 #[.agg #[.int .i64 s, .int .i64 d, .int .i64 p, .int .i64 t, .int .i64 i, .slice A n c]] w fun e w' => ∃ A' c', e = .returned (.slice A' (20 + n) c') ∧ w'.ownsRow w.heap.size 5 1 (.slice A' (20 + n) c') (20 + n) ((ipHead s d p t i n ++ xs).map bv) ∧ Below w.heap.size w w' := by
  obtain ⟨⟨_, hs⟩, ⟨_, hd⟩, ⟨_, hp⟩, ⟨_, ht⟩, ⟨_, hi⟩, hn⟩ := Pk.ok_iff.1 h
  simp only at hs hd hp ht hi hn
  have hb01 := (Below.refl w.heap.size w).alloc (Nat.le_refl _) (.cells #[.int .i64 s, .int .i64 d, .int .i64 p, .int .i64 t, .int .i64 i, .slice A n c] 89)
  have hp1 := PkAt.box w s d p t i (.slice A n c) 89
  have hx1 := hx.next hb01
  have hs1 : (w.alloc (.cells #[.int .i64 s, .int .i64 d, .int .i64 p, .int .i64 t, .int .i64 i, .slice A n c] 89)).heap.size = w.heap.size + 1 := World.size_alloc _ _
  have hl' := Lib.hid hl
  rw [hl] at hn
  clear h hx hl
  go_enter Tryz.func55, Tryz.ntmps55
  go_wp2_with fail
  generalize w.alloc (.cells #[.int .i64 s, .int .i64 d, .int .i64 p, .int .i64 t, .int .i64 i, .slice A n c] 89) = w2 at hb01 hp1 hx1 hs1 ⊢
  obtain ⟨B0, hB0⟩ : ∃ B0, B0 = w.heap.size + 1 := ⟨_, rfl⟩
  rw [← hB0] at hs1
  have hg : w.heap.size < B0 := by omega
  have hbL := (Below.refl B0 w2).alloc (by omega) (.cells #[.int .u8 69, .int .u8 0] 5)
  have hoL : (w2.alloc (.cells #[.int .u8 69, .int .u8 0] 5)).ownsRow B0 5 1 (.slice (some ⟨w.heap.size + 1, 0, none⟩) 2 2) 2 (([0x45, 0] : List UInt8).map bv) := by
    have := World.ownsRow_lit (base := B0) (e := 5) (size := 1) w2 #[.int .u8 69, .int .u8 0] 2 (by omega) (by decide) rfl
    rw [hs1, hB0] at this
    rw [hB0]
    exact this
  have hz : B0 ≤ (w2.alloc (.cells #[.int .u8 69, .int .u8 0] 5)).heap.size := by rw [World.size_alloc]; omega
  have K := Lib.hid (big_walk (20 + (n : Int)) 2 (20 + n) 2 rfl rfl (by omega) (by omega) (w2.alloc (.cells #[.int .u8 69, .int .u8 0] 5)))
  (with_reducible refine K.out.mono ?_)
  rintro e w3 ⟨C1, q1, rfl, hownB, hbB⟩
  have HO := Lib.hid (own_below hoL hbB)
  have HR := Lib.hid (Reads.of_own hownB)
  have HB := Lib.hid (hbL.trans (hbB.mono hz))
  have hsz := HB.out.size
  have hsz' : B0 ≤ w3.heap.size := by omega
  clear K hownB hbB hoL hbL hz
  go_wp2_with (at_builtin; refine wpList_append_bytes B0 HB.out rfl _ _ 31 rfl B0 5 Tryz.underlying31 info_u8 _ _ [0x45, 0] (by exact rfl) HO.out C1 2 q1 (big 2 (20 + n)) (big_length _ _) (by exact rfl) HR.out (by omega) hsz' (Nat.le_refl _) ?_; intro A4 p4 w4 hown4 hb4; obtain ⟨c0, c1, c2, c3, c4, c5⟩ := hp1.below hb4 hg)
  have hq4 : B0 ≤ w4.heap.size := by have := hb4.size; omega
  have K := Lib.hid (big_walk (i : Int) 2 i 2 rfl rfl (by omega) (by omega) w4)
  (with_reducible refine K.out.mono ?_)
  rintro e v4 ⟨C4, q4, rfl, hownB, hbB⟩
  have HO4 := Lib.hid (own_below hown4 hbB)
  have HR4 := Lib.hid (Reads.of_own hownB)
  have HB4 := Lib.hid (hb4.trans (hbB.mono hq4))
  have hsz4 : B0 ≤ v4.heap.size := by have := HB4.out.size; omega
  clear K hownB hbB hown4 hb4 c0 c1 c2 c3 c4 c5
  go_wp2_with (first
    | (at_builtin; refine wpList_append_bytes B0 HB4.out rfl _ _ 31 rfl B0 5 Tryz.underlying31 info_u8 _ _ ([0x45, 0] ++ big 2 (20 + n)) (by exact rfl) HO4.out C4 2 q4 (big 2 i) (big_length _ _) (by exact rfl) HR4.out (by omega) hsz4 (Nat.le_refl _) ?_; intro A5 p5 w5 hown5 hb5; obtain ⟨c0, c1, c2, c3, c4, c5⟩ := hp1.below hb5 hg; have hz5 : B0 ≤ w5.heap.size := (by have := hb5.size; omega); have HOL := Lib.hid (own_below hown5 ((Below.refl w5.heap.size w5).alloc (Nat.le_refl _) (.cells #[.int .u8 64, .int .u8 0, .int .u8 (t : Int), .int .u8 (p : Int), .int .u8 0, .int .u8 0] 5))); have HRL := Lib.hid (RB.lit w5 5 #[.int .u8 64, .int .u8 0, .int .u8 (t : Int), .int .u8 (p : Int), .int .u8 0, .int .u8 0] (0, 0) [0x40, 0, UInt8.ofNat t, UInt8.ofNat p, 0, 0] (lit6 t p (by omega) (by omega))); have HBL := Lib.hid (hb5.alloc hz5 (.cells #[.int .u8 64, .int .u8 0, .int .u8 (t : Int), .int .u8 (p : Int), .int .u8 0, .int .u8 0] 5)); clear hown5 hb5)
    | (at_builtin; refine wpList_append_bytes B0 HBL.out rfl _ _ 31 rfl B0 5 Tryz.underlying31 info_u8 _ _ ([0x45, 0] ++ big 2 (20 + n) ++ big 2 i) (by exact rfl) HOL.out (some ⟨w5.heap.size, 0, none⟩) 6 6 [0x40, 0, UInt8.ofNat t, UInt8.ofNat p, 0, 0] rfl (by exact rfl) HRL.out (by omega) (by simp; omega) (Nat.le_refl _) ?_; intro A6 p6 w6 hown6 hb6; clear c0 c1 c2 c3 c4 c5 HOL HRL HBL; obtain ⟨c0, c1, c2, c3, c4, c5⟩ := hp1.below hb6 hg))
  have hq6 : B0 ≤ w6.heap.size := by have := hb6.size; omega
  have K := Lib.hid (big_walk (s : Int) 4 s 4 rfl rfl (by omega) (by omega) w6)
  (with_reducible refine K.out.mono ?_)
  rintro e v6 ⟨C6, q6, rfl, hownB, hbB⟩
  have HO6 := Lib.hid (own_below hown6 hbB)
  have HR6 := Lib.hid (Reads.of_own hownB)
  have HB6 := Lib.hid (hb6.trans (hbB.mono hq6))
  have hsz6 : B0 ≤ v6.heap.size := by have := HB6.out.size; omega
  clear K hownB hbB hown6 hb6 c0 c1 c2 c3 c4 c5
  go_wp2_with (at_builtin; refine wpList_append_bytes B0 HB6.out rfl _ _ 31 rfl B0 5 Tryz.underlying31 info_u8 _ _ ([0x45, 0] ++ big 2 (20 + n) ++ big 2 i ++ [0x40, 0, UInt8.ofNat t, UInt8.ofNat p, 0, 0]) (by exact rfl) HO6.out C6 4 q6 (big 4 s) (big_length _ _) (by exact rfl) HR6.out (by omega) hsz6 (Nat.le_refl _) ?_; intro A7 p7 w7 hown7 hb7; obtain ⟨c0, c1, c2, c3, c4, c5⟩ := hp1.below hb7 hg)
  have hq7 : B0 ≤ w7.heap.size := by have := hb7.size; omega
  have K := Lib.hid (big_walk (d : Int) 4 d 4 rfl rfl (by omega) (by omega) w7)
  (with_reducible refine K.out.mono ?_)
  rintro e v7 ⟨C7, q7, rfl, hownB, hbB⟩
  have HO7 := Lib.hid (own_below hown7 hbB)
  have HR7 := Lib.hid (Reads.of_own hownB)
  have HB7 := Lib.hid (hb7.trans (hbB.mono hq7))
  have hsz7 : B0 ≤ v7.heap.size := by have := HB7.out.size; omega
  clear K hownB hbB hown7 hb7 c0 c1 c2 c3 c4 c5
  go_wp2_with (at_builtin; refine wpList_append_bytes B0 HB7.out rfl _ _ 31 rfl B0 5 Tryz.underlying31 info_u8 _ _ ([0x45, 0] ++ big 2 (20 + n) ++ big 2 i ++ [0x40, 0, UInt8.ofNat t, UInt8.ofNat p, 0, 0] ++ big 4 s) (by exact rfl) HO7.out C7 4 q7 (big 4 d) (big_length _ _) (by exact rfl) HR7.out (by omega) hsz7 (Nat.le_refl _) ?_; intro A8 p8 w8 hown8 hb8; obtain ⟨c0, c1, c2, c3, c4, c5⟩ := hp1.below hb8 hg)
  have hown8' : w8.ownsRow B0 5 1 (.slice A8 20 p8) 20 ((ipHead0 s d p t i n).map bv) := hown8
  have hsz8 : B0 ≤ w8.heap.size := by have := hb8.size; omega
  clear hown8 c0 c1 c2 c3 c4 c5
  obtain ⟨g, rfl, hg8, hg2⟩ := own_form hown8' (by omega)
  obtain ⟨hl8, hr8⟩ := own_read hown8'
  have hpc : 20 ≤ p8 := by
    obtain ⟨_, _, hA, h, _⟩ := own_shape hown8'
    injection hA with _ _ h2
    omega
  have hcl := Sm.check_le (ipHead0 s d p t i n)
  have HH := Lib.hid (show ((ipHead0 s d p t i n).set 10 (UInt8.ofNat (Sm.check (ipHead0 s d p t i n) / 256))).set (10 + 1) (UInt8.ofNat (Sm.check (ipHead0 s d p t i n))) = ipHead s d p t i n from rfl)
  have HO8 := Lib.hid hown8'
  have HB8 := Lib.hid hb8
  have K1 := Lib.hid (refCheck (ipHead0 s d p t i n) 20 hl8 (some ⟨g, 0, none⟩) p8 w8.drew hr8 (by omega))
  have hl8' := Lib.hid hl8
  generalize ipHead0 s d p t i n = zs at HH HO8 K1 hcl hl8'
  have K2 := Lib.hid (fun w : World => big_walk ((Sm.check zs : Nat) : Int) 2 (Sm.check zs) 2 rfl rfl (by omega) (by omega) w)
  have hc2 : ¬ p8 = 10 := by omega
  clear hown8' hb8 hl8 hr8
  go_region_law (first
    | (go_simp; go_at_call 93; (with_reducible refine K1.out.mono ?_); rintro e w' ⟨rfl, rfl⟩)
    | (go_simp; go_at_call 90; (with_reducible refine (K2.out _).mono ?_); rintro e w9 ⟨C9, q9, rfl, hown9, hb9⟩)
    | (refine step_copy_bytes rfl _ _ _ _ rfl 5 Tryz.underlying31 size_u8 g 10 (20 - 10) (p8 - 10) C9 2 q9 (by exact rfl) (by exact rfl) B0 20 p8 zs (big 2 (Sm.check zs)) (own_below HO8.out.drew hb9) (Reads.of_own hown9) rfl (by simp [big]) (by simp [big]) (by simp [big]) ?_; intro w10 hown10 O10))
  all_goals
    have hb10 := Lib.hid (O10.below _ _ ((HB8.out.drew).trans (hb9.mono hsz8)) hg8)
    have HO10 : Hid (w10.ownsRow B0 5 1 (.slice (some ⟨g, 0, none⟩) 20 p8) 20 ((ipHead s d p t i n).map bv)) := by
      unfold Hid
      have e := hown10
      rw [big_length, icmpBig2, splice_at zs 10 _ _ (by rw [hl8'.out]; omega), HH.out] at e
      exact e
    obtain ⟨c0, c1, c2, c3, c4, c5⟩ := hp1.below hb10.out hg
    have hx10 := Lib.hid (hx1.next (hs1.symm ▸ hb10.out))
    have hs10 : B0 ≤ w10.heap.size := by have := hb10.out.size; omega
    clear hown10 O10 hown9 hb9 K1 K2
    go_wp2_with (at_builtin; refine wpList_append_bytes B0 hb10.out rfl _ _ 31 rfl B0 5 Tryz.underlying31 info_u8 _ _ _ (by exact rfl) HO10.out A n c xs hl'.out (by exact rfl) hx10.out (by omega) hs10 (Nat.le_refl _) ?_; intro A11 p11 w11 hown11 hb11)
    go_ret
    exact ⟨A11, p11, rfl, own_base hown11 (by omega), hb01.trans (hb11.mono (by omega))⟩

end Go.Proofs.YtlacidnnankjlaaGreatDoor

/-
  The walks of kiosklaw0's Bytes and CellsWeight.
-/
namespace Go.Proofs.YtlacidnnankjlaaGreatDoor
open Go.RowKit

/-- a list of byte strings that came in. -/
def SpCells (W : World) (A : Option Addr) (len : Nat) : Prop :=
  ∀ i, i < len → ∃ (b o : Nat) (xs : List UInt8) (B : Option Addr) (c : Nat), A = some ⟨b, o, none⟩ ∧ b < W.heap.size ∧ W.cell? ⟨b, o + i, none⟩ = some (.slice B xs.length c) ∧ xs.length ≤ c ∧ c ≤ 140737488351232 ∧ RB W W.heap.size B xs
theorem SpCells.below {W W' : World} {A : Option Addr} {len : Nat} (h : SpCells W A len) (hb : Below W.heap.size W W') : SpCells W' A len := by
  intro i hi
  obtain ⟨b, o, xs, B, c, hA, hlt, c0, a0, z0, r0⟩ := h i hi
  exact ⟨b, o, xs, B, c, hA, Nat.lt_of_lt_of_le hlt hb.size, (hb.cell hlt).trans c0, a0, z0, r0.next hb⟩
/-- the first k of them are at most m bytes long. -/
def SpShort (W : World) (A : Option Addr) (k m : Nat) : Prop :=
  ∀ i, i < k → ∀ (b o n : Nat) (B : Option Addr) (c : Nat), A = some ⟨b, o, none⟩ → W.cell? ⟨b, o + i, none⟩ = some (.slice B n c) → n ≤ m
theorem SpShort.step {W : World} {b o : Nat} {k m n : Nat} {B : Option Addr} {c : Nat} (h : SpShort W (some ⟨b, o, none⟩) k m) (hc : W.cell? ⟨b, o + k, none⟩ = some (.slice B n c)) : SpShort W (some ⟨b, o, none⟩) (k + 1) (m + n) := by
  intro i hi b' o' n' B' c' hA hcell
  injection hA with hA
  injection hA with h1 h2
  subst h1; subst h2
  by_cases hk : i < k
  · have := h i hk _ _ n' B' c' rfl hcell; omega
  · obtain rfl : i = k := by omega
    rw [hc] at hcell
    simp only [Option.some.injEq, Value.slice.injEq] at hcell
    omega

end Go.Proofs.YtlacidnnankjlaaGreatDoor

/-
  A segment as a block of seven cells; the walks of chapter 13's small functions.
-/
namespace Go.Proofs.YtlacidnnankjlaaGreatDoor
open Go.RowKit

/-- the 7 cells of a struct. -/
def SgAt (w : World) (g : Nat) (v0 v1 v2 v3 v4 v5 v6 : Value) : Prop :=
  w.cell? ⟨g, 0, none⟩ = some v0 ∧ w.cell? ⟨g, 1, none⟩ = some v1 ∧ w.cell? ⟨g, 2, none⟩ = some v2 ∧ w.cell? ⟨g, 3, none⟩ = some v3 ∧ w.cell? ⟨g, 4, none⟩ = some v4 ∧ w.cell? ⟨g, 5, none⟩ = some v5 ∧ w.cell? ⟨g, 6, none⟩ = some v6
section
variable {w w' : World} {g : Nat} {v0 v1 v2 v3 v4 v5 v6 : Value} {T : TypeId}
theorem SgAt.of (h0 : w.cell? ⟨g, 0, none⟩ = some v0) (h1 : w.cell? ⟨g, 1, none⟩ = some v1) (h2 : w.cell? ⟨g, 2, none⟩ = some v2) (h3 : w.cell? ⟨g, 3, none⟩ = some v3) (h4 : w.cell? ⟨g, 4, none⟩ = some v4) (h5 : w.cell? ⟨g, 5, none⟩ = some v5) (h6 : w.cell? ⟨g, 6, none⟩ = some v6) : SgAt w g v0 v1 v2 v3 v4 v5 v6 := ⟨h0, h1, h2, h3, h4, h5, h6⟩
theorem SgAt.box (w : World) (v0 v1 v2 v3 v4 v5 v6 : Value) (T : TypeId) : SgAt (w.alloc (.cells #[v0, v1, v2, v3, v4, v5, v6] T)) w.heap.size v0 v1 v2 v3 v4 v5 v6 := by
  refine SgAt.of ?_ ?_ ?_ ?_ ?_ ?_ ?_ <;> rw [World.cell?_alloc_at _ _ _ _ rfl] <;> rfl
theorem SgAt.below {B : Nat} (h : SgAt w g v0 v1 v2 v3 v4 v5 v6) (hb : Below B w w') (hg : g < B) : SgAt w' g v0 v1 v2 v3 v4 v5 v6 := by
  obtain ⟨h0, h1, h2, h3, h4, h5, h6⟩ := h
  exact SgAt.of ((cellB hb hg).trans h0) ((cellB hb hg).trans h1) ((cellB hb hg).trans h2) ((cellB hb hg).trans h3) ((cellB hb hg).trans h4) ((cellB hb hg).trans h5) ((cellB hb hg).trans h6)
/-- and they may be written. -/
def SgF (w : World) (g : Nat) (v0 v1 v2 v3 v4 v5 v6 : Value) : Prop := SgAt w g v0 v1 v2 v3 v4 v5 v6 ∧ ∀ k, w.frozen? ⟨g, k, none⟩ = false
theorem SgF.box (w : World) (v0 v1 v2 v3 v4 v5 v6 : Value) (T : TypeId) : SgF (w.alloc (.cells #[v0, v1, v2, v3, v4, v5, v6] T)) w.heap.size v0 v1 v2 v3 v4 v5 v6 := ⟨SgAt.box w v0 v1 v2 v3 v4 v5 v6 T, fun k => World.frozen?_alloc_at _ _ _ k rfl⟩
theorem SgF.below {B : Nat} (h : SgF w g v0 v1 v2 v3 v4 v5 v6) (hb : Below B w w') (hg : g < B) : SgF w' g v0 v1 v2 v3 v4 v5 v6 := ⟨h.1.below hb hg, fun k => (frozB hb hg).trans (h.2 k)⟩
theorem SgF.grown {row : Option Nat} (h : SgF w g v0 v1 v2 v3 v4 v5 v6) (hg : w.grownBy w' row) (hlt : g < w.heap.size) (hne : some g ≠ row) : SgF w' g v0 v1 v2 v3 v4 v5 v6 := by
  have hc : ∀ k, w'.cell? ⟨g, k, none⟩ = w.cell? ⟨g, k, none⟩ := fun k => World.cell?_of_block (a := ⟨g, k, none⟩) (hg.block g hlt hne)
  have hf : ∀ k, w'.frozen? ⟨g, k, none⟩ = w.frozen? ⟨g, k, none⟩ := fun k => World.frozen?_of_block (a := ⟨g, k, none⟩) (hg.block g hlt hne)
  obtain ⟨⟨h0, h1, h2, h3, h4, h5, h6⟩, hz⟩ := h
  exact ⟨SgAt.of ((hc 0).trans h0) ((hc 1).trans h1) ((hc 2).trans h2) ((hc 3).trans h3) ((hc 4).trans h4) ((hc 5).trans h5) ((hc 6).trans h6), fun k => (hf k).trans (hz k)⟩
theorem SgF.fin {u : Value} {e : TypeId} {size n : Nat} {xs : List Value} (h : SgF w g v0 v1 v2 v3 v4 v5 v6) (hb : Below w.heap.size w w') (hg : g < w.heap.size) (ho : w'.ownsRow w.heap.size e size u n xs) : SgF w' g v0 v1 v2 v3 v4 v5 v6 ∧ some g ≠ u.ownBlock ∧ g < w'.heap.size :=
  ⟨h.below hb hg, own_ne ho (Or.inl hg), Nat.lt_of_lt_of_le hg hb.size⟩
end
/-- the cells, stored. -/
abbrev setSg (w : World) (g : Nat) (v0 v1 v2 v3 v4 v5 v6 : Value) : World :=
  ((((((w.setCell ⟨g, 0, none⟩ v0).setCell ⟨g, 1, none⟩ v1).setCell ⟨g, 2, none⟩ v2).setCell ⟨g, 3, none⟩ v3).setCell ⟨g, 4, none⟩ v4).setCell ⟨g, 5, none⟩ v5).setCell ⟨g, 6, none⟩ v6
theorem setSg_grown (w : World) (g : Nat) (v0 v1 v2 v3 v4 v5 v6 : Value) : w.grownBy (setSg w g v0 v1 v2 v3 v4 v5 v6) (some g) := (((((((grown_setCell w g 0 v0).trans (grown_setCell _ g 1 v1)).trans (grown_setCell _ g 2 v2)).trans (grown_setCell _ g 3 v3)).trans (grown_setCell _ g 4 v4)).trans (grown_setCell _ g 5 v5)).trans (grown_setCell _ g 6 v6))
theorem setSg_only (w : World) (g : Nat) (v0 v1 v2 v3 v4 v5 v6 : Value) : Only g w (setSg w g v0 v1 v2 v3 v4 v5 v6) := ((((((((Only.refl g w).set 0 v0).set 1 v1).set 2 v2).set 3 v3).set 4 v4).set 5 v5).set 6 v6)
theorem setSg_at {w : World} {g : Nat} {u0 u1 u2 u3 u4 u5 u6 : Value} (h : SgAt w g u0 u1 u2 u3 u4 u5 u6) (v0 v1 v2 v3 v4 v5 v6 : Value) : SgAt (setSg w g v0 v1 v2 v3 v4 v5 v6) g v0 v1 v2 v3 v4 v5 v6 := by
  obtain ⟨h0, h1, h2, h3, h4, h5, h6⟩ := h
  have k : ∀ (w : World) (j j' : Nat) (u x : Value), j' ≠ j → w.cell? ⟨g, j, none⟩ = some x → (w.setCell ⟨g, j', none⟩ u).cell? ⟨g, j, none⟩ = some x := fun w j j' u x hj hc =>
    (World.cell?_setCell_other w ⟨g, j', none⟩ ⟨g, j, none⟩ u (by simp)).trans hc
  have m : ∀ (w : World) (j : Nat) (u x : Value), w.cell? ⟨g, j, none⟩ = some x → (w.setCell ⟨g, j, none⟩ u).cell? ⟨g, j, none⟩ = some u := fun w j u x hc => World.cell?_setCell_same _ _ _ hc
  refine SgAt.of ?_ ?_ ?_ ?_ ?_ ?_ ?_
  · exact k _ 0 6 _ _ (by decide) (k _ 0 5 _ _ (by decide) (k _ 0 4 _ _ (by decide) (k _ 0 3 _ _ (by decide) (k _ 0 2 _ _ (by decide) (k _ 0 1 _ _ (by decide) (m _ 0 _ _ h0))))))
  · exact k _ 1 6 _ _ (by decide) (k _ 1 5 _ _ (by decide) (k _ 1 4 _ _ (by decide) (k _ 1 3 _ _ (by decide) (k _ 1 2 _ _ (by decide) (m _ 1 _ _ (k _ 1 0 _ _ (by decide) h1))))))
  · exact k _ 2 6 _ _ (by decide) (k _ 2 5 _ _ (by decide) (k _ 2 4 _ _ (by decide) (k _ 2 3 _ _ (by decide) (m _ 2 _ _ (k _ 2 1 _ _ (by decide) (k _ 2 0 _ _ (by decide) h2))))))
  · exact k _ 3 6 _ _ (by decide) (k _ 3 5 _ _ (by decide) (k _ 3 4 _ _ (by decide) (m _ 3 _ _ (k _ 3 2 _ _ (by decide) (k _ 3 1 _ _ (by decide) (k _ 3 0 _ _ (by decide) h3))))))
  · exact k _ 4 6 _ _ (by decide) (k _ 4 5 _ _ (by decide) (m _ 4 _ _ (k _ 4 3 _ _ (by decide) (k _ 4 2 _ _ (by decide) (k _ 4 1 _ _ (by decide) (k _ 4 0 _ _ (by decide) h4))))))
  · exact k _ 5 6 _ _ (by decide) (m _ 5 _ _ (k _ 5 4 _ _ (by decide) (k _ 5 3 _ _ (by decide) (k _ 5 2 _ _ (by decide) (k _ 5 1 _ _ (by decide) (k _ 5 0 _ _ (by decide) h5))))))
  · exact m _ 6 _ _ (k _ 6 5 _ _ (by decide) (k _ 6 4 _ _ (by decide) (k _ 6 3 _ _ (by decide) (k _ 6 2 _ _ (by decide) (k _ 6 1 _ _ (by decide) (k _ 6 0 _ _ (by decide) h6))))))
/-- a struct whose last cell is a slice of the call's own, stored into a box: what is good for what follows. -/
theorem setSg_fin {w : World} {g B : Nat} {u0 u1 u2 u3 u4 u5 u6 : Value} (h : SgAt w g u0 u1 u2 u3 u4 u5 u6) (v0 v1 v2 v3 v4 v5 : Value) {A : Option Addr} {m c : Nat} {xs : List UInt8} {base : Nat} {e : TypeId}
    (ho : w.ownsRow base e 1 (.slice A m c) m (xs.map bv)) (hne : some g ≠ (Value.slice A m c).ownBlock) {W0 : World} (hb : Below B W0 w) (hg : B ≤ g) (hlt : g < w.heap.size) :
    SgAt (setSg w g v0 v1 v2 v3 v4 v5 (.slice A m c)) g v0 v1 v2 v3 v4 v5 (.slice A m c) ∧ B ≤ g ∧ g < (setSg w g v0 v1 v2 v3 v4 v5 (.slice A m c)).heap.size ∧ RB (setSg w g v0 v1 v2 v3 v4 v5 (.slice A m c)) (setSg w g v0 v1 v2 v3 v4 v5 (.slice A m c)).heap.size A xs ∧ Below B W0 (setSg w g v0 v1 v2 v3 v4 v5 (.slice A m c)) := by
  refine ⟨setSg_at h v0 v1 v2 v3 v4 v5 _, hg, ?_, ?_, (setSg_only w g v0 v1 v2 v3 v4 v5 _).below _ _ hb hg⟩
  · rw [(setSg_only w g v0 v1 v2 v3 v4 v5 _).size]; exact hlt
  · exact RB.of_ownN (ho.kept (setSg_grown w g v0 v1 v2 v3 v4 v5 _) (Or.inr (Ne.symm hne)))
theorem segWithin (n m : Int) (w : World) : Calls Tryz.prog 81 #[.int .i64 n, .int .i64 m] w fun e w' => e = .returned (.bool (inR n m)) ∧ w = w' := by
  by_cases h1 : 0 ≤ n
  · by_cases h2 : n ≤ m
    · have H := Lib.hid (inR_iff.2 ⟨h1, h2⟩)
      go_enter Tryz.func81, Tryz.ntmps81
      go_wp2
      go_ret
      exact ⟨by rw [H.out]; rfl, rfl⟩
    · have H := Lib.hid (Bool.eq_false_iff.2 fun h => h2 (inR_iff.1 h).2)
      go_enter Tryz.func81, Tryz.ntmps81
      go_wp2
      go_ret
      exact ⟨by rw [H.out]; rfl, rfl⟩
  · have H := Lib.hid (Bool.eq_false_iff.2 fun h => h1 (inR_iff.1 h).1 : inR n m = false)
    go_enter Tryz.func81, Tryz.ntmps81
    go_wp2
    go_ret
    exact ⟨by rw [H.out]; rfl, rfl⟩
theorem segIP (n : Int) (w : World) : Calls Tryz.prog 44 #[.int .i64 n] w fun e w' => e = .returned (.bool (inR n 4294967295)) ∧ w = w' := by
  go_enter Tryz.func44, Tryz.ntmps44
  go_wp2_with fail
  (with_reducible refine (segWithin n 4294967295 w).mono ?_)
  rintro e w' ⟨rfl, rfl⟩
  go_wp2
  go_ret
  exact ⟨rfl, rfl⟩
theorem segPort (n : Int) (w : World) : Calls Tryz.prog 46 #[.int .i64 n] w fun e w' => e = .returned (.bool (inR n 65535)) ∧ w = w' := by
  go_enter Tryz.func46, Tryz.ntmps46
  go_wp2_with fail
  (with_reducible refine (segWithin n 65535 w).mono ?_)
  rintro e w' ⟨rfl, rfl⟩
  go_wp2
  go_ret
  exact ⟨rfl, rfl⟩
set_option maxRecDepth 100000 in
set_option maxHeartbeats 1600000 in
theorem segMay (sp dp sq ak fl wn : Int) (n c : Nat) (A : Option Addr) (b1 b2 b3 b4 b5 b6 : Bool) (h1 : inR sp 65535 = b1) (h2 : inR dp 65535 = b2) (h3 : inR sq 4294967295 = b3) (h4 : inR ak 4294967295 = b4) (h5 : inR fl 63 = b5) (h6 : inR wn 65535 = b6) (w : World) :
    Calls Tryz.prog 110 #[.agg #[.int .i64 sp, .int .i64 dp, .int .i64 sq, .int .i64 ak, .int .i64 fl, .int .i64 wn, .slice A n c]] w fun e w' => e = .returned (.bool (b1 && (b2 && (b3 && (b4 && (b5 && (b6 && decide (n ≤ 1460)))))))) ∧ Below w.heap.size w w' := by
  have HB := Lib.hid (fun r f => (Below.refl w.heap.size w).alloc (Nat.le_refl _) (.cells r f))
  have K1 := Lib.hid (fun w => h1 ▸ segPort sp w)
  have K2 := Lib.hid (fun w => h2 ▸ segPort dp w)
  have K3 := Lib.hid (fun w => h3 ▸ segWithin sq 4294967295 w)
  have K4 := Lib.hid (fun w => h4 ▸ segWithin ak 4294967295 w)
  have K5 := Lib.hid (fun w => h5 ▸ segWithin fl 63 w)
  have K6 := Lib.hid (fun w => h6 ▸ segPort wn w)
  have hc : b1 = false ∨ (b1 = true ∧ b2 = false) ∨ (b1 = true ∧ b2 = true ∧ b3 = false) ∨ (b1 = true ∧ b2 = true ∧ b3 = true ∧ b4 = false) ∨ (b1 = true ∧ b2 = true ∧ b3 = true ∧ b4 = true ∧ b5 = false) ∨ (b1 = true ∧ b2 = true ∧ b3 = true ∧ b4 = true ∧ b5 = true ∧ b6 = false) ∨ (b1 = true ∧ b2 = true ∧ b3 = true ∧ b4 = true ∧ b5 = true ∧ b6 = true ∧ n ≤ 1460) ∨ (b1 = true ∧ b2 = true ∧ b3 = true ∧ b4 = true ∧ b5 = true ∧ b6 = true ∧ ¬ n ≤ 1460) := by
    cases b1 <;> cases b2 <;> cases b3 <;> cases b4 <;> cases b5 <;> cases b6 <;> simp <;> omega
  clear h1 h2 h3 h4 h5 h6
  rcases hc with rfl | ⟨rfl, rfl⟩ | ⟨rfl, rfl, rfl⟩ | ⟨rfl, rfl, rfl, rfl⟩ | ⟨rfl, rfl, rfl, rfl, rfl⟩ | ⟨rfl, rfl, rfl, rfl, rfl, rfl⟩ | ⟨rfl, rfl, rfl, rfl, rfl, rfl, hn⟩ | ⟨rfl, rfl, rfl, rfl, rfl, rfl, hn⟩
  all_goals
    go_enter Tryz.func110, Tryz.ntmps110
    go_wp2_with (first
      | (go_at_call 46; (with_reducible refine (K1.out _).mono ?_); rintro e w' ⟨rfl, rfl⟩; clear K1)
      | (go_at_call 46; (with_reducible refine (K2.out _).mono ?_); rintro e w' ⟨rfl, rfl⟩; clear K2)
      | (go_at_call 81; (with_reducible refine (K3.out _).mono ?_); rintro e w' ⟨rfl, rfl⟩; clear K3)
      | (go_at_call 81; (with_reducible refine (K4.out _).mono ?_); rintro e w' ⟨rfl, rfl⟩; clear K4)
      | (go_at_call 81; (with_reducible refine (K5.out _).mono ?_); rintro e w' ⟨rfl, rfl⟩; clear K5)
      | (go_at_call 46; (with_reducible refine (K6.out _).mono ?_); rintro e w' ⟨rfl, rfl⟩; clear K6))
    go_ret
    exact ⟨by first | (simp [*]; done) | (simp [*]; omega), HB.out _ _⟩
end Go.Proofs.YtlacidnnankjlaaGreatDoor

/-
  The sum of a segment between two addresses: seg.ahead, seg.check, the document's head.
-/
namespace Go.Proofs.YtlacidnnankjlaaGreatDoor
open Go.RowKit

theorem sumAddN (s : Nat) (sI : Int) (hse : sI = (s : Int)) (hs : s ≤ 65535) (xs : List UInt8) (n : Nat) (hl : xs.length = n) (A : Option Addr) (c : Nat) (w : World) (hx : RB w w.heap.size A xs) (hn : n ≤ 1099511627776) :
    Calls Tryz.prog 134 #[.int .i64 sI, .slice A n c] w fun e w' => e = .returned (.int .i64 ((Sm.add s xs : Nat) : Int)) ∧ w = w' := by
  subst hse hl
  exact sumAdd s hs xs A c w hx hn
theorem refAddN (s : Nat) (sI : Int) (hse : sI = (s : Int)) (hs : s ≤ 65535) (xs : List UInt8) (n : Nat) (hl : xs.length = n) (A : Option Addr) (c : Nat) (w : World) (hx : RB w w.heap.size A xs) (hn : n ≤ 1099511627776) :
    Calls Tryz.prog 91 #[.int .i64 sI, .slice A n c] w fun e w' => e = .returned (.int .i64 ((Sm.add s xs : Nat) : Int)) ∧ w = w' := by
  subst hse hl
  exact refAdd s hs xs A c w hx hn
theorem segSum_add (src dst : Nat) (xs : List UInt8) : (65535 : Int) - ((Sm.add (Sm.add 0 (segHd src dst xs.length)) xs : Nat) : Int) = ((segSum src dst xs : Nat) : Int) := by
  unfold segSum
  rw [Sm.add_append _ _ _ (by rw [segHd_length])]
  exact check_int _

set_option maxRecDepth 100000 in
set_option maxHeartbeats 1600000 in
theorem segAhead (src dst n : Nat) (hs : src < 4294967296) (hd : dst < 4294967296) (hn : n < 4294967296) (w : World) :
    Calls Tryz.prog 135 #[.int .i64 src, .int .i64 dst, .int .i64 n] w fun e w' => e = .returned (.int .i64 ((Sm.add 0 (segHd src dst n) : Nat) : Int)) ∧ Below w.heap.size w w' := by
  have K1 := Lib.hid (sumPut w.heap.size w.heap.size w [] 0 rfl none 0 4 (src : Int) 4 src rfl rfl (by omega) (by omega) w (World.ownsRow_nil _ _ _ _) (Below.refl _ _) (Nat.le_refl _) (Nat.le_refl _) (by omega))
  go_enter Tryz.func135, Tryz.ntmps135
  go_wp2_with fail
  (with_reducible refine K1.out.mono ?_)
  rintro e w1 ⟨A1, p1, rfl, hown1, hb1, hs1⟩
  clear K1
  go_wp2_with fail
  ((with_reducible refine (sumPut w.heap.size w.heap.size w ([] ++ big 4 src) 4 rfl A1 p1 4 (dst : Int) 4 dst rfl rfl (by omega) (by omega) w1 hown1 hb1 (Nat.le_refl _) hs1 (by omega)).mono ?_))
  rintro e w2 ⟨A2, p2, rfl, hown2, hb2, hs2⟩
  have hbL' := Lib.hid (hb2.alloc hs2 (.cells #[.int .u8 0, .int .u8 6] 5))
  have hoL := Lib.hid (own_below hown2 (balloc w2 (.cells #[.int .u8 0, .int .u8 6] 5)))
  have hrL := Lib.hid (RB.lit w2 5 #[.int .u8 0, .int .u8 6] (0, 0) [0, 6] rfl)
  clear hown1 hb1 hs1 hown2 hb2
  go_wp2_with (at_builtin; refine wpList_append_bytes w.heap.size hbL'.out rfl _ _ 31 rfl w.heap.size 5 Tryz.underlying31 info_u8 _ _ ([] ++ big 4 src ++ big 4 dst) (by exact rfl) hoL.out (some ⟨w2.heap.size, 0, none⟩) 2 2 [0, 6] rfl (by exact rfl) hrL.out (by omega) (by simp; omega) (Nat.le_refl _) ?_; intro A6 p6 w6 hown6 hb6)
  have hs6 : w.heap.size ≤ w6.heap.size := hb6.size
  ((with_reducible refine (sumPut w.heap.size w.heap.size w ([] ++ big 4 src ++ big 4 dst ++ [0, 6]) 10 rfl A6 p6 2 (n : Int) 2 n rfl rfl (by omega) (by omega) w6 hown6 hb6 (Nat.le_refl _) hs6 (by omega)).mono ?_))
  rintro e w7 ⟨A7, p7, rfl, hown7, hb7, hs7⟩
  have hr7 : Hid (RB w7 w7.heap.size A7 (segHd src dst n)) := Lib.hid (RB.of_ownN hown7)
  have K2 := Lib.hid (sumAddN 0 0 rfl (by omega) (segHd src dst n) 12 (segHd_length _ _ _) A7 p7 w7 hr7.out (by omega))
  clear hown6 hb6 hown7 hoL hrL hbL'
  go_wp2_with fail
  (with_reducible refine K2.out.mono ?_)
  rintro e w' ⟨rfl, rfl⟩
  go_wp2
  go_ret
  exact ⟨rfl, hb7⟩

set_option maxRecDepth 100000 in
set_option maxHeartbeats 1600000 in
theorem segCheck (src dst : Nat) (hs : src < 4294967296) (hd : dst < 4294967296) (xs : List UInt8) (n : Nat) (hl : xs.length = n) (A : Option Addr) (c : Nat) (w : World) (hx : RB w w.heap.size A xs) (hn : n ≤ 1000000) :
    Calls Tryz.prog 113 #[.int .i64 src, .int .i64 dst, .slice A n c] w fun e w' => e = .returned (.int .i64 ((segSum src dst xs : Nat) : Int)) ∧ Below w.heap.size w w' := by
  have h1 := Sm.add_le 0 (segHd src dst n)
  have h2 := Sm.add_le (Sm.add 0 (segHd src dst n)) xs
  have HF := Lib.hid (segSum_add src dst xs)
  have K1 := Lib.hid (segAhead src dst n hs hd (by omega) w)
  have hx' := Lib.hid hx
  have hl' := Lib.hid hl
  clear hl hx
  go_enter Tryz.func113, Tryz.ntmps113
  go_wp2_with fail
  (with_reducible refine K1.out.mono ?_)
  rintro e w1 ⟨rfl, hb1⟩
  have K2 := Lib.hid (sumAddN (Sm.add 0 (segHd src dst n)) _ rfl h1 xs n hl'.out A c w1 (hx'.out.next hb1) (by omega))
  have HF' : Hid ((65535 : Int) - ((Sm.add (Sm.add 0 (segHd src dst n)) xs : Nat) : Int) = ((segSum src dst xs : Nat) : Int)) := by
    have := HF.out; rw [hl'.out] at this; exact this
  generalize Sm.add 0 (segHd src dst n) = a at h1 h2 K2 HF' ⊢
  generalize Sm.add a xs = z at h2 K2 HF'
  go_wp2_with fail
  (with_reducible refine K2.out.mono ?_)
  rintro e w' ⟨rfl, rfl⟩
  go_wp2
  go_ret
  exact ⟨by rw [← HF'.out]; rfl, hb1⟩

set_option maxRecDepth 100000 in
set_option maxHeartbeats 1600000 in
theorem refHead (src dst n : Nat) (hs : src < 4294967296) (hd : dst < 4294967296) (hn : n < 4294967296) (w : World) :
    Calls Tryz.prog 92 #[.int .i64 src, .int .i64 dst, .int .i64 n] w fun e w' => ∃ A' c', e = .returned (.slice A' 12 c') ∧ w'.ownsRow w.heap.size 5 1 (.slice A' 12 c') 12 ((segHd src dst n).map bv) ∧ Below w.heap.size w w' := by
  go_enter Tryz.func92, Tryz.ntmps92
  go_wp2_with fail
  ((with_reducible refine (big_walk (src : Int) 4 src 4 rfl rfl (by omega) (by omega) w).mono ?_))
  rintro e w1 ⟨A1, p1, rfl, hown1, hb1⟩
  go_wp2_with fail
  ((with_reducible refine (big_walk (dst : Int) 4 dst 4 rfl rfl (by omega) (by omega) w1).mono ?_))
  rintro e w2 ⟨A2, p2, rfl, hown2, hb2⟩
  have hb02 := Lib.hid (hb1.trans (hb2.mono hb1.size))
  have HO := Lib.hid (own_below hown1 hb2)
  have HR := Lib.hid (RB.of_ownN hown2)
  have hs2 := hb02.out.size
  clear hown1 hown2 hb1 hb2
  go_wp2_with (first
    | (at_builtin; refine wpList_append_bytes w.heap.size hb02.out rfl _ _ 31 rfl w.heap.size 5 Tryz.underlying31 info_u8 _ _ (big 4 src) (by exact rfl) HO.out A2 4 p2 (big 4 dst) rfl (by exact rfl) HR.out (by omega) hs2 (Nat.le_refl _) ?_; intro A3 p3 w3 hown3 hb3; have hz3 : w.heap.size ≤ w3.heap.size := hb3.size; have HOL := Lib.hid (own_below hown3 (balloc w3 (.cells #[.int .u8 0, .int .u8 6] 5))); have HRL := Lib.hid (RB.lit w3 5 #[.int .u8 0, .int .u8 6] (0, 0) [0, 6] rfl); have HBL := Lib.hid (hb3.alloc hz3 (.cells #[.int .u8 0, .int .u8 6] 5)); clear hown3 hb3 HO HR hb02)
    | (at_builtin; refine wpList_append_bytes w.heap.size HBL.out rfl _ _ 31 rfl w.heap.size 5 Tryz.underlying31 info_u8 _ _ (big 4 src ++ big 4 dst) (by exact rfl) HOL.out (some ⟨w3.heap.size, 0, none⟩) 2 2 [0, 6] rfl (by exact rfl) HRL.out (by omega) (by simp; omega) (Nat.le_refl _) ?_; intro A6 p6 w6 hown6 hb6; clear HOL HRL HBL))
  have hs6 : w.heap.size ≤ w6.heap.size := hb6.size
  ((with_reducible refine (big_walk (n : Int) 2 n 2 rfl rfl (by omega) (by omega) w6).mono ?_))
  rintro e w7 ⟨A7, p7, rfl, hown7, hb7⟩
  have hb07 := Lib.hid (hb6.trans (hb7.mono hs6))
  have hs7 := hb07.out.size
  have HO7 := Lib.hid (own_below hown6 hb7)
  have HR7 := Lib.hid (RB.of_ownN hown7)
  clear hown6 hown7 hb6 hb7
  go_wp2_with (at_builtin; refine wpList_append_bytes w.heap.size hb07.out rfl _ _ 31 rfl w.heap.size 5 Tryz.underlying31 info_u8 _ _ (big 4 src ++ big 4 dst ++ [0, 6]) (by exact rfl) HO7.out A7 2 p7 (big 2 n) rfl (by exact rfl) HR7.out (by omega) hs7 (Nat.le_refl _) ?_; intro A8 p8 w8 hown8 hb8)
  go_ret
  exact ⟨A8, p8, rfl, hown8, hb8⟩

end Go.Proofs.YtlacidnnankjlaaGreatDoor

/-
  The walk of seg.Bytes.
-/
namespace Go.Proofs.YtlacidnnankjlaaGreatDoor
open Go.RowKit

theorem lit2 (t : Nat) (ht : t ≤ 255) : (#[Value.int .u8 80, .int .u8 (t : Int)] : Array Value).toList = ([0x50, UInt8.ofNat t] : List UInt8).map bv := by
  simp only [List.map, bv, byte_n t ht]
  rfl
theorem u8_in (n : Nat) (h : n ≤ 255) : IntKind.u8.wrap (n : Int) = (n : Int) := by
  rw [IntKind.wrap_u8]; omega

theorem segMayV (sp dp sq ak fl wn : Int) (xs : List UInt8) (n : Nat) (hl : xs.length = n) (A : Option Addr) (c : Nat) (b : Bool) (h : Sg.ok ⟨sp, dp, sq, ak, fl, wn, xs⟩ = b) (w : World) :
    Calls Tryz.prog 110 #[.agg #[.int .i64 sp, .int .i64 dp, .int .i64 sq, .int .i64 ak, .int .i64 fl, .int .i64 wn, .slice A n c]] w fun e w' => e = .returned (.bool b) ∧ Below w.heap.size w w' := by
  subst h hl
  exact segMay sp dp sq ak fl wn xs.length c A _ _ _ _ _ _ rfl rfl rfl rfl rfl rfl w
theorem segIPV (n : Int) (b : Bool) (h : wordB n = b) (w : World) : Calls Tryz.prog 44 #[.int .i64 n] w fun e w' => e = .returned (.bool b) ∧ w = w' := by
  subst h
  exact segIP n w

set_option maxRecDepth 100000 in
set_option maxHeartbeats 3200000 in
theorem segBytes (src dst sp dp sq ak fl wn : Nat) (xs : List UInt8) (n : Nat) (hl : xs.length = n) (A : Option Addr) (c : Nat) (h : Sg.ok ⟨sp, dp, sq, ak, fl, wn, xs⟩ = true) (hs : src < 4294967296) (hd : dst < 4294967296) (w : World) (hx : RB w w.heap.size A xs) :
    Calls Tryz.prog 82 #[.int .i64 src, .int .i64 dst, .agg #[.int .i64 sp, .int .i64 dp, .int .i64 sq, .int .i64 ak, .int .i64 fl, .int .i64 wn, .slice A n c]] w fun e w' => ∃ A' c', e = .returned (.tuple #[.slice A' (20 + n) c', .int .i64 0]) ∧ w'.ownsRow w.heap.size 5 1 (.slice A' (20 + n) c') (20 + n) ((sgBytes src dst sp dp sq ak fl wn xs).map bv) ∧ Below w.heap.size w w' := by
  obtain ⟨⟨_, h1⟩, ⟨_, h2⟩, ⟨_, h3⟩, ⟨_, h4⟩, ⟨_, h5⟩, ⟨_, h6⟩, hn⟩ := Sg.ok_iff.1 h
  simp only at h1 h2 h3 h4 h5 h6 hn
  have hb01 := Lib.hid (balloc w (.cells #[.int .i64 sp, .int .i64 dp, .int .i64 sq, .int .i64 ak, .int .i64 fl, .int .i64 wn, .slice A n c] 36))
  have hp1 := Lib.hid (SgAt.box w (.int .i64 sp) (.int .i64 dp) (.int .i64 sq) (.int .i64 ak) (.int .i64 fl) (.int .i64 wn) (.slice A n c) 36)
  have hx1 := Lib.hid (hx.next hb01.out)
  have hs1 : (w.alloc (.cells #[.int .i64 sp, .int .i64 dp, .int .i64 sq, .int .i64 ak, .int .i64 fl, .int .i64 wn, .slice A n c] 36)).heap.size = w.heap.size + 1 := World.size_alloc _ _
  have KM := Lib.hid (segMayV sp dp sq ak fl wn xs n hl A c _ h (w.alloc (.cells #[.int .i64 sp, .int .i64 dp, .int .i64 sq, .int .i64 ak, .int .i64 fl, .int .i64 wn, .slice A n c] 36)))
  have KI1 := Lib.hid (fun w => segIPV (src : Int) true (word_nat src hs) w)
  have KI2 := Lib.hid (fun w => segIPV (dst : Int) true (word_nat dst hd) w)
  have hl' := Lib.hid hl
  rw [hl] at hn
  clear h hx hl
  go_enter Tryz.func82, Tryz.ntmps82
  go_wp2_with fail
  (with_reducible refine KM.out.mono ?_)
  rintro e w2 ⟨rfl, hb12⟩
  clear KM
  generalize w.alloc (.cells #[.int .i64 sp, .int .i64 dp, .int .i64 sq, .int .i64 ak, .int .i64 fl, .int .i64 wn, .slice A n c] 36) = w1 at hb01 hp1 hx1 hs1 hb12
  have hp2 := Lib.hid (hp1.out.below hb12 (by omega))
  have hx2 := Lib.hid (hx1.out.next hb12)
  have hb02 := Lib.hid (hb01.out.trans (hb12.mono hb01.out.size))
  have hs2 : w.heap.size < w2.heap.size := by have := hb12.size; omega
  clear hp1 hx1 hb12 hb01 hs1
  go_wp2_with fail
  (with_reducible refine (KI1.out _).mono ?_)
  rintro e w' ⟨rfl, rfl⟩
  go_wp2_with fail
  (with_reducible refine (KI2.out _).mono ?_)
  rintro e w' ⟨rfl, rfl⟩
  clear KI1 KI2
  obtain ⟨c0, c1, c2, c3, c4, c5, c6⟩ := hp2.out
  go_wp2_with fail
  have K1 := Lib.hid (sumPut w2.heap.size w2.heap.size w2 [] 0 rfl none 0 2 (sp : Int) 2 sp rfl rfl (by omega) (by omega) w2.drew (World.ownsRow_nil _ _ _ _) (Below.refl _ _).drew (Nat.le_refl _) (Nat.le_refl _) (by omega))
  go_region_held3 (fun w' => w'.cell? ⟨w.heap.size, 0, none⟩ = some (.int .i64 sp) ∧ w'.cell? ⟨w.heap.size, 1, none⟩ = some (.int .i64 dp) ∧ w'.cell? ⟨w.heap.size, 2, none⟩ = some (.int .i64 sq) ∧ w'.cell? ⟨w.heap.size, 3, none⟩ = some (.int .i64 ak) ∧ w'.cell? ⟨w.heap.size, 4, none⟩ = some (.int .i64 fl) ∧ w'.cell? ⟨w.heap.size, 5, none⟩ = some (.int .i64 wn) ∧ w'.cell? ⟨w.heap.size, 6, none⟩ = some (.slice A n c)) (go_keep)
    (first
      | (go_at_call 111; (with_reducible refine K1.out.mono ?_); rintro e w3 ⟨A3, p3, rfl, hown3, hb3, hs3⟩; obtain ⟨d0, d1, d2, d3, d4, d5, d6⟩ := hp2.out.below hb3 hs2)
      | (go_at_call 111; (with_reducible refine (sumPut w2.heap.size w2.heap.size w2 ([] ++ big 2 sp) 2 rfl A3 p3 2 (dp : Int) 2 dp rfl rfl (by omega) (by omega) w3 hown3 hb3 (Nat.le_refl _) hs3 (by omega)).mono ?_); rintro e w4 ⟨A4, p4, rfl, hown4, hb4, hs4⟩; obtain ⟨e0, e1, e2, e3, e4, e5, e6⟩ := hp2.out.below hb4 hs2))
  clear K1 c0 c1 c2 c3 c4 c5 c6 d0 d1 d2 d3 d4 d5 d6 hown3 hb3 hs3
  have HO4 := Lib.hid hown4
  have HB4 := Lib.hid hb4
  clear hown4 hb4
  go_wp2_with fail
  have K1 := Lib.hid (sumPut w2.heap.size w2.heap.size w2 ([] ++ big 2 sp ++ big 2 dp) 4 rfl A4 p4 4 (sq : Int) 4 sq rfl rfl (by omega) (by omega) w4.drew HO4.out.drew HB4.out.drew (Nat.le_refl _) hs4 (by omega))
  go_region_held3 (fun w' => w'.cell? ⟨w.heap.size, 0, none⟩ = some (.int .i64 sp) ∧ w'.cell? ⟨w.heap.size, 1, none⟩ = some (.int .i64 dp) ∧ w'.cell? ⟨w.heap.size, 2, none⟩ = some (.int .i64 sq) ∧ w'.cell? ⟨w.heap.size, 3, none⟩ = some (.int .i64 ak) ∧ w'.cell? ⟨w.heap.size, 4, none⟩ = some (.int .i64 fl) ∧ w'.cell? ⟨w.heap.size, 5, none⟩ = some (.int .i64 wn) ∧ w'.cell? ⟨w.heap.size, 6, none⟩ = some (.slice A n c)) (go_keep)
    (first
      | (go_at_call 111; (with_reducible refine K1.out.mono ?_); rintro e w5 ⟨A5, p5, rfl, hown5, hb5, hs5⟩; obtain ⟨d0, d1, d2, d3, d4, d5, d6⟩ := hp2.out.below hb5 hs2)
      | (go_at_call 111; (with_reducible refine (sumPut w2.heap.size w2.heap.size w2 ([] ++ big 2 sp ++ big 2 dp ++ big 4 sq) 8 rfl A5 p5 4 (ak : Int) 4 ak rfl rfl (by omega) (by omega) w5 hown5 hb5 (Nat.le_refl _) hs5 (by omega)).mono ?_); rintro e w6 ⟨A6, p6, rfl, hown6, hb6, hs6⟩; obtain ⟨c0, c1, c2, c3, c4, c5, c6⟩ := hp2.out.below hb6 hs2))
  clear K1 d0 d1 d2 d3 d4 d5 d6 e0 e1 e2 e3 e4 e5 e6 hown5 hb5 hs5 HO4 HB4 hs4
  have HO6 := Lib.hid hown6
  have HB6 := Lib.hid hb6
  clear hown6 hb6
  have hflb : (fl : Int) ≤ 255 := by omega
  have hfl256 : (fl : Int) < 256 := by omega
  have HOL := Lib.hid (own_below HO6.out.drew (balloc w6.drew (.cells #[.int .u8 80, .int .u8 (fl : Int)] 5)))
  have HRL := Lib.hid (RB.lit w6.drew 5 #[.int .u8 80, .int .u8 (fl : Int)] (0, 0) [0x50, UInt8.ofNat fl] (lit2 fl (by omega)))
  have HBL := Lib.hid (HB6.out.drew.alloc hs6 (.cells #[.int .u8 80, .int .u8 (fl : Int)] 5))
  have wfl : IntKind.u8.wrap (fl : Int) = (fl : Int) := u8_in fl (by omega)
  go_wp2_with fail
  go_region_held3 (fun w' => w'.cell? ⟨w.heap.size, 0, none⟩ = some (.int .i64 sp) ∧ w'.cell? ⟨w.heap.size, 1, none⟩ = some (.int .i64 dp) ∧ w'.cell? ⟨w.heap.size, 2, none⟩ = some (.int .i64 sq) ∧ w'.cell? ⟨w.heap.size, 3, none⟩ = some (.int .i64 ak) ∧ w'.cell? ⟨w.heap.size, 4, none⟩ = some (.int .i64 fl) ∧ w'.cell? ⟨w.heap.size, 5, none⟩ = some (.int .i64 wn) ∧ w'.cell? ⟨w.heap.size, 6, none⟩ = some (.slice A n c)) (go_keep)
    (first
      | (refine step_append_bytes rfl _ _ 31 rfl w2.heap.size 5 Tryz.underlying31 info_u8 _ _ ([] ++ big 2 sp ++ big 2 dp ++ big 4 sq ++ big 4 ak) (by exact rfl) HOL.out (some ⟨w6.heap.size, 0, none⟩) 2 2 [0x50, UInt8.ofNat fl] rfl (by exact rfl) HRL.out (by omega) HBL.out.size ?_; intro A7 p7 w7 hown7 hb7 hg7; have hb27 := Lib.hid (HBL.out.trans hb7); have hs7 : w2.heap.size ≤ w7.heap.size := hb27.out.size; obtain ⟨d0, d1, d2, d3, d4, d5, d6⟩ := hp2.out.below hb27.out hs2)
      | (go_at_call 111; (with_reducible refine (sumPut w2.heap.size w2.heap.size w2 ([] ++ big 2 sp ++ big 2 dp ++ big 4 sq ++ big 4 ak ++ [0x50, UInt8.ofNat fl]) 14 rfl A7 p7 2 (wn : Int) 2 wn rfl rfl (by omega) (by omega) w7 hown7 hb27.out (Nat.le_refl _) hs7 (by omega)).mono ?_); rintro e w8 ⟨A8, p8, rfl, hown8, hb8, hs8⟩; obtain ⟨e0, e1, e2, e3, e4, e5, e6⟩ := hp2.out.below hb8 hs2))
  clear c0 c1 c2 c3 c4 c5 c6 d0 d1 d2 d3 d4 d5 d6 hown7 hb7 hg7 hb27 hs7 HO6 HB6 hs6 HOL HRL HBL
  have HO8 := Lib.hid hown8
  have HB8 := Lib.hid hb8
  clear hown8 hb8
  have HOL := Lib.hid (own_below HO8.out.drew (balloc w8.drew (.cells #[.int .u8 0, .int .u8 0, .int .u8 0, .int .u8 0] 5)))
  have HRL := Lib.hid (RB.lit w8.drew 5 #[.int .u8 0, .int .u8 0, .int .u8 0, .int .u8 0] (0, 0) [0, 0, 0, 0] rfl)
  have HBL := Lib.hid (HB8.out.drew.alloc hs8 (.cells #[.int .u8 0, .int .u8 0, .int .u8 0, .int .u8 0] 5))
  go_wp2_with fail
  go_region_held3 (fun w' => w'.cell? ⟨w.heap.size, 0, none⟩ = some (.int .i64 sp) ∧ w'.cell? ⟨w.heap.size, 1, none⟩ = some (.int .i64 dp) ∧ w'.cell? ⟨w.heap.size, 2, none⟩ = some (.int .i64 sq) ∧ w'.cell? ⟨w.heap.size, 3, none⟩ = some (.int .i64 ak) ∧ w'.cell? ⟨w.heap.size, 4, none⟩ = some (.int .i64 fl) ∧ w'.cell? ⟨w.heap.size, 5, none⟩ = some (.int .i64 wn) ∧ w'.cell? ⟨w.heap.size, 6, none⟩ = some (.slice A n c)) (go_keep)
    (first
      | (refine step_append_bytes rfl _ _ 31 rfl w2.heap.size 5 Tryz.underlying31 info_u8 _ _ ([] ++ big 2 sp ++ big 2 dp ++ big 4 sq ++ big 4 ak ++ [0x50, UInt8.ofNat fl] ++ big 2 wn) (by exact rfl) HOL.out (some ⟨w8.heap.size, 0, none⟩) 4 4 [0, 0, 0, 0] rfl (by exact rfl) HRL.out (by omega) HBL.out.size ?_; intro A9 p9 w9 hown9 hb9 hg9; have hb29 := Lib.hid (HBL.out.trans hb9); have hs9 : w2.heap.size ≤ w9.heap.size := hb29.out.size; have hx9 := Lib.hid (hx2.out.next hb29.out); obtain ⟨d0, d1, d2, d3, d4, d5, d6⟩ := hp2.out.below hb29.out hs2)
      | (refine step_append_bytes rfl _ _ 31 rfl w2.heap.size 5 Tryz.underlying31 info_u8 _ _ ([] ++ big 2 sp ++ big 2 dp ++ big 4 sq ++ big 4 ak ++ [0x50, UInt8.ofNat fl] ++ big 2 wn ++ [0, 0, 0, 0]) (by exact rfl) hown9 A n c xs hl'.out (by exact rfl) hx9.out (by omega) hs9 ?_; intro A10 p10 w10 hown10 hb10 hg10; have hb210 := Lib.hid (hb29.out.trans hb10); have hs10 : w2.heap.size ≤ w10.heap.size := hb210.out.size; obtain ⟨c0, c1, c2, c3, c4, c5, c6⟩ := hp2.out.below hb210.out hs2))
  clear c0 c1 c2 c3 c4 c5 c6 d0 d1 d2 d3 d4 d5 d6 e0 e1 e2 e3 e4 e5 e6 hown9 hb9 hg9 hb29 hs9 HO8 HB8 hs8 HOL HRL HBL hb10 hg10
  have hown : w10.ownsRow w2.heap.size 5 1 (.slice A10 (20 + n) p10) (20 + n) ((sgHead0 sp dp sq ak fl wn ++ xs).map bv) := hown10
  have hlz : (sgHead0 sp dp sq ak fl wn ++ xs).length = 20 + n := by rw [List.length_append, sgHead0_length, hl'.out]
  clear hown10
  obtain ⟨g, rfl, hg, hg2⟩ := own_form hown (by omega)
  have hcl := segSum_le src dst (sgHead0 sp dp sq ak fl wn ++ xs)
  have HH := Lib.hid (show sgPut (sgHead0 sp dp sq ak fl wn ++ xs) (segSum src dst (sgHead0 sp dp sq ak fl wn ++ xs)) = sgBytes src dst sp dp sq ak fl wn xs from rfl)
  have K3 := Lib.hid (segCheck src dst hs hd (sgHead0 sp dp sq ak fl wn ++ xs) (20 + n) hlz (some ⟨g, 0, none⟩) p10 w10 (RB.of_ownN hown) (by omega))
  generalize segSum src dst (sgHead0 sp dp sq ak fl wn ++ xs) = z at hcl HH K3
  have HO := Lib.hid hown
  clear hown hlz
  go_wp2_with fail
  (with_reducible refine K3.out.mono ?_)
  rintro e w11 ⟨rfl, hb11⟩
  have HO11 := Lib.hid (own_below HO.out hb11)
  have K4 := Lib.hid (sumSet g (20 + n) p10 w2.heap.size (sgHead0 sp dp sq ak fl wn ++ xs) 16 z 16 z rfl rfl w11 HO11.out (by omega) hcl (by omega))
  have hb211 := Lib.hid (hb210.out.trans (hb11.mono hs10))
  clear K3 hb11
  go_wp2_with fail
  (with_reducible refine K4.out.mono ?_)
  rintro e w12 ⟨rfl, hown12, hO⟩
  have hb12 := Lib.hid (hO.below _ _ hb211.out hg)
  have HO12 := Lib.hid hown12
  clear K4 hown12 hO
  go_wp2
  go_ret2
  refine ⟨some ⟨g, 0, none⟩, p10, rfl, ?_, hb02.out.trans (hb12.out.mono hb02.out.size)⟩
  rw [← HH.out]
  exact own_base HO12.out hb02.out.size

end Go.Proofs.YtlacidnnankjlaaGreatDoor

/-
  The walk of the document's SegBytes.
-/
namespace Go.Proofs.YtlacidnnankjlaaGreatDoor
open Go.RowKit

theorem refHeadI (src dst n : Nat) (nI : Int) (hne : nI = (n : Int)) (hs : src < 4294967296) (hd : dst < 4294967296) (hn : n < 4294967296) (w : World) :
    Calls Tryz.prog 92 #[.int .i64 src, .int .i64 dst, .int .i64 nI] w fun e w' => ∃ A' c', e = .returned (.slice A' 12 c') ∧ w'.ownsRow w.heap.size 5 1 (.slice A' 12 c') 12 ((segHd src dst n).map bv) ∧ Below w.heap.size w w' := by
  subst hne
  exact refHead src dst n hs hd hn w

set_option maxRecDepth 100000 in
set_option maxHeartbeats 3200000 in
theorem refSegBytes (src dst sp dp sq ak fl wn : Nat) (xs : List UInt8) (n : Nat) (hl : xs.length = n) (A : Option Addr) (c : Nat) (h : Sg.ok ⟨sp, dp, sq, ak, fl, wn, xs⟩ = true) (hs : src < 4294967296) (hd : dst < 4294967296) (w : World) (hx : RB w w.heap.size A xs) :
    Calls Tryz.prog 53 #[.int .i64 src, .int .i64 dst, .agg #[.int .i64 sp, .int .i64 dp, .int .i64 sq, .int .i64 ak, .int .i64 fl, .int .i64 wn, .slice A n c]] w fun e w' => ∃ A' c', e = .returned (.slice A' (20 + n) c') ∧ w'.ownsRow w.heap.size 5 1 (.slice A' (20 + n) c') (20 + n) ((sgBytes src dst sp dp sq ak fl wn xs).map bv) ∧ Below w.heap.size w w' := by
  obtain ⟨⟨_, h1⟩, ⟨_, h2⟩, ⟨_, h3⟩, ⟨_, h4⟩, ⟨_, h5⟩, ⟨_, h6⟩, hn⟩ := Sg.ok_iff.1 h
  simp only at h1 h2 h3 h4 h5 h6 hn
  have hb01 := Lib.hid (balloc w (.cells #[.int .i64 sp, .int .i64 dp, .int .i64 sq, .int .i64 ak, .int .i64 fl, .int .i64 wn, .slice A n c] 36))
  have hp1 := Lib.hid (SgAt.box w (.int .i64 sp) (.int .i64 dp) (.int .i64 sq) (.int .i64 ak) (.int .i64 fl) (.int .i64 wn) (.slice A n c) 36)
  have hx1 := Lib.hid (hx.next hb01.out)
  have hs1 : w.heap.size < (w.alloc (.cells #[.int .i64 sp, .int .i64 dp, .int .i64 sq, .int .i64 ak, .int .i64 fl, .int .i64 wn, .slice A n c] 36)).heap.size := lt_alloc _ _
  have hl' := Lib.hid hl
  have hflb : (fl : Int) ≤ 255 := by omega
  have wfl : IntKind.u8.wrap (fl : Int) = (fl : Int) := u8_in fl (by omega)
  rw [hl] at hn
  clear h hx hl
  go_enter Tryz.func53, Tryz.ntmps53
  go_wp2_with fail
  obtain ⟨c0, c1, c2, c3, c4, c5, c6⟩ := hp1.out
  generalize w.alloc (.cells #[.int .i64 sp, .int .i64 dp, .int .i64 sq, .int .i64 ak, .int .i64 fl, .int .i64 wn, .slice A n c] 36) = w1 at hb01 hp1 hx1 hs1 c0 c1 c2 c3 c4 c5 c6 ⊢
  have K1 := Lib.hid (big_walk (sp : Int) 2 sp 2 rfl rfl (by omega) (by omega) w1.drew)
  go_region_held3 (fun w' => w'.cell? ⟨w.heap.size, 0, none⟩ = some (.int .i64 sp) ∧ w'.cell? ⟨w.heap.size, 1, none⟩ = some (.int .i64 dp) ∧ w'.cell? ⟨w.heap.size, 2, none⟩ = some (.int .i64 sq) ∧ w'.cell? ⟨w.heap.size, 3, none⟩ = some (.int .i64 ak) ∧ w'.cell? ⟨w.heap.size, 4, none⟩ = some (.int .i64 fl) ∧ w'.cell? ⟨w.heap.size, 5, none⟩ = some (.int .i64 wn) ∧ w'.cell? ⟨w.heap.size, 6, none⟩ = some (.slice A n c)) (go_keep)
    (first
      | (go_at_call 90; (with_reducible refine K1.out.mono ?_); rintro e w3 ⟨A3, p3, rfl, hown3, hb3⟩; have hb13 := Lib.hid ((Below.refl w1.heap.size w1).drew.trans (hb3.mono (Nat.le_refl _))); have hs3 : w1.heap.size ≤ w3.heap.size := hb13.out.size; obtain ⟨d0, d1, d2, d3, d4, d5, d6⟩ := hp1.out.below hb13.out hs1)
      | (go_at_call 90; (with_reducible refine (big_walk (dp : Int) 2 dp 2 rfl rfl (by omega) (by omega) w3).mono ?_); rintro e w4 ⟨A4, p4, rfl, hown4, hb4⟩; have hb14 := Lib.hid (hb13.out.trans (hb4.mono hs3)); have hs4 : w1.heap.size ≤ w4.heap.size := hb14.out.size; have HO4 := Lib.hid (own_below hown3 hb4); have HR4 := Lib.hid (RB.of_ownN hown4); obtain ⟨e0, e1, e2, e3, e4, e5, e6⟩ := hp1.out.below hb14.out hs1)
      | (refine step_append_bytes rfl _ _ 31 rfl w1.heap.size 5 Tryz.underlying31 info_u8 _ _ (big 2 sp) (by exact rfl) HO4.out A4 2 p4 (big 2 dp) rfl (by exact rfl) HR4.out (by omega) hs4 ?_; intro A5 p5 w5 hown5 hb5 hg5; have hb15 := Lib.hid (hb14.out.trans hb5); have hs5 : w1.heap.size ≤ w5.heap.size := hb15.out.size; obtain ⟨f0, f1, f2, f3, f4, f5, f6⟩ := hp1.out.below hb15.out hs1))
  clear c0 c1 c2 c3 c4 c5 c6 d0 d1 d2 d3 d4 d5 d6 e0 e1 e2 e3 e4 e5 e6 K1 hown3 hb3 hb13 hs3 hown4 hb4 hb14 hs4 HO4 HR4 hb5 hg5
  go_wp2_with fail
  have K := Lib.hid (big_walk (sq : Int) 4 sq 4 rfl rfl (by omega) (by omega) w5)
  (with_reducible refine K.out.mono ?_)
  rintro e v6 ⟨C6, q6, rfl, hownB, hbB⟩
  have HO6 := Lib.hid (own_below hown5 hbB)
  have HR6 := Lib.hid (RB.of_ownN hownB)
  have HB6 := Lib.hid (hb15.out.trans (hbB.mono hs5))
  have hsz6 : w1.heap.size ≤ v6.heap.size := HB6.out.size
  obtain ⟨c0, c1, c2, c3, c4, c5, c6⟩ := hp1.out.below HB6.out hs1
  clear K hownB hbB hown5 hb15 hs5 f0 f1 f2 f3 f4 f5 f6
  go_wp2_with (at_builtin; refine wpList_append_bytes w1.heap.size HB6.out rfl _ _ 31 rfl w1.heap.size 5 Tryz.underlying31 info_u8 _ _ (big 2 sp ++ big 2 dp) (by exact rfl) HO6.out C6 4 q6 (big 4 sq) rfl (by exact rfl) HR6.out (by omega) hsz6 (Nat.le_refl _) ?_; intro A7 p7 w7 hown7 hb7; obtain ⟨c0, c1, c2, c3, c4, c5, c6⟩ := hp1.out.below hb7 hs1)
  have hz7 : w1.heap.size ≤ w7.heap.size := hb7.size
  have K := Lib.hid (big_walk (ak : Int) 4 ak 4 rfl rfl (by omega) (by omega) w7)
  (with_reducible refine K.out.mono ?_)
  rintro e v8 ⟨C8, q8, rfl, hownB, hbB⟩
  have HO8 := Lib.hid (own_below hown7 hbB)
  have HR8 := Lib.hid (RB.of_ownN hownB)
  have HB8 := Lib.hid (hb7.trans (hbB.mono hz7))
  have hsz8 : w1.heap.size ≤ v8.heap.size := HB8.out.size
  obtain ⟨c0, c1, c2, c3, c4, c5, c6⟩ := hp1.out.below HB8.out hs1
  clear K hownB hbB hown7 hb7
  go_wp2_with (first
    | (at_builtin; refine wpList_append_bytes w1.heap.size HB8.out rfl _ _ 31 rfl w1.heap.size 5 Tryz.underlying31 info_u8 _ _ (big 2 sp ++ big 2 dp ++ big 4 sq) (by exact rfl) HO8.out C8 4 q8 (big 4 ak) rfl (by exact rfl) HR8.out (by omega) hsz8 (Nat.le_refl _) ?_; intro A9 p9 w9 hown9 hb9; obtain ⟨c0, c1, c2, c3, c4, c5, c6⟩ := hp1.out.below hb9 hs1; have hz9 : w1.heap.size ≤ w9.heap.size := (hb9).size; have HOL := Lib.hid (own_below hown9 (balloc w9 (.cells #[.int .u8 80, .int .u8 (fl : Int)] 5))); have HRL := Lib.hid (RB.lit w9 5 #[.int .u8 80, .int .u8 (fl : Int)] (0, 0) [0x50, UInt8.ofNat fl] (lit2 fl (by omega))); have HBL := Lib.hid (hb9.alloc hz9 (.cells #[.int .u8 80, .int .u8 (fl : Int)] 5)); clear hown9 hb9)
    | (at_builtin; refine wpList_append_bytes w1.heap.size HBL.out rfl _ _ 31 rfl w1.heap.size 5 Tryz.underlying31 info_u8 _ _ (big 2 sp ++ big 2 dp ++ big 4 sq ++ big 4 ak) (by exact rfl) HOL.out (some ⟨w9.heap.size, 0, none⟩) 2 2 [0x50, UInt8.ofNat fl] rfl (by exact rfl) HRL.out (by omega) (HBL.out.size) (Nat.le_refl _) ?_; intro A10 p10 w10 hown10 hb10; obtain ⟨c0, c1, c2, c3, c4, c5, c6⟩ := hp1.out.below hb10 hs1))
  have hz10 : w1.heap.size ≤ w10.heap.size := hb10.size
  clear HOL HRL HBL
  have K := Lib.hid (big_walk (wn : Int) 2 wn 2 rfl rfl (by omega) (by omega) w10)
  (with_reducible refine K.out.mono ?_)
  rintro e v11 ⟨C11, q11, rfl, hownB, hbB⟩
  have HO11 := Lib.hid (own_below hown10 hbB)
  have HR11 := Lib.hid (RB.of_ownN hownB)
  have HB11 := Lib.hid (hb10.trans (hbB.mono hz10))
  have hsz11 : w1.heap.size ≤ v11.heap.size := HB11.out.size
  obtain ⟨c0, c1, c2, c3, c4, c5, c6⟩ := hp1.out.below HB11.out hs1
  clear K hownB hbB hown10 hb10
  go_wp2_with (first
    | (at_builtin; refine wpList_append_bytes w1.heap.size HB11.out rfl _ _ 31 rfl w1.heap.size 5 Tryz.underlying31 info_u8 _ _ (big 2 sp ++ big 2 dp ++ big 4 sq ++ big 4 ak ++ [0x50, UInt8.ofNat fl]) (by exact rfl) HO11.out C11 2 q11 (big 2 wn) rfl (by exact rfl) HR11.out (by omega) hsz11 (Nat.le_refl _) ?_; intro A12 p12 w12 hown12 hb12; obtain ⟨c0, c1, c2, c3, c4, c5, c6⟩ := hp1.out.below hb12 hs1; have hz12 : w1.heap.size ≤ w12.heap.size := (hb12).size; have HOL := Lib.hid (own_below hown12 (balloc w12 (.cells #[.int .u8 0, .int .u8 0, .int .u8 0, .int .u8 0] 5))); have HRL := Lib.hid (RB.lit w12 5 #[.int .u8 0, .int .u8 0, .int .u8 0, .int .u8 0] (0, 0) [0, 0, 0, 0] rfl); have HBL := Lib.hid (hb12.alloc hz12 (.cells #[.int .u8 0, .int .u8 0, .int .u8 0, .int .u8 0] 5)); clear hown12 hb12)
    | (at_builtin; refine wpList_append_bytes w1.heap.size HBL.out rfl _ _ 31 rfl w1.heap.size 5 Tryz.underlying31 info_u8 _ _ (big 2 sp ++ big 2 dp ++ big 4 sq ++ big 4 ak ++ [0x50, UInt8.ofNat fl] ++ big 2 wn) (by exact rfl) HOL.out (some ⟨w12.heap.size, 0, none⟩) 4 4 [0, 0, 0, 0] rfl (by exact rfl) HRL.out (by omega) (HBL.out.size) (Nat.le_refl _) ?_; intro A13 p13 w13 hown13 hb13; obtain ⟨c0, c1, c2, c3, c4, c5, c6⟩ := hp1.out.below hb13 hs1; have hz13 : w1.heap.size ≤ w13.heap.size := hb13.size; have HO13 := Lib.hid hown13; have HB13 := Lib.hid hb13; have HX13 := Lib.hid (hx1.out.next hb13); clear HOL HRL HBL hown13 hb13)
    | (at_builtin; refine wpList_append_bytes w1.heap.size HB13.out rfl _ _ 31 rfl w1.heap.size 5 Tryz.underlying31 info_u8 _ _ (big 2 sp ++ big 2 dp ++ big 4 sq ++ big 4 ak ++ [0x50, UInt8.ofNat fl] ++ big 2 wn ++ [0, 0, 0, 0]) (by exact rfl) HO13.out A n c xs hl'.out (by exact rfl) HX13.out (by omega) hz13 (Nat.le_refl _) ?_; intro A14 p14 w14 hown14 hb14; obtain ⟨c0, c1, c2, c3, c4, c5, c6⟩ := hp1.out.below hb14 hs1))
  have hz14 : w1.heap.size ≤ w14.heap.size := hb14.size
  have hown : w14.ownsRow w1.heap.size 5 1 (.slice A14 (20 + n) p14) (20 + n) ((sgHead0 sp dp sq ak fl wn ++ xs).map bv) := hown14
  have hlz : (sgHead0 sp dp sq ak fl wn ++ xs).length = 20 + n := by rw [List.length_append, sgHead0_length, hl'.out]
  have HB14 := Lib.hid hb14
  have hpc : 20 + n ≤ p14 := by obtain ⟨_, _, hA, h, _⟩ := own_shape hown; injection hA with _ _ h2; omega
  clear hown14 hb14 HO13 HB13 HX13 c0 c1 c2 c3 c4 c5 c6
  obtain ⟨g, rfl, hg, hg2⟩ := own_form hown (by omega)
  have hcl := segSum_le src dst (sgHead0 sp dp sq ak fl wn ++ xs)
  have HH := Lib.hid (show sgPut (sgHead0 sp dp sq ak fl wn ++ xs) (segSum src dst (sgHead0 sp dp sq ak fl wn ++ xs)) = sgBytes src dst sp dp sq ak fl wn xs from rfl)
  have HF := Lib.hid (segSum_add src dst (sgHead0 sp dp sq ak fl wn ++ xs))
  have HRZ := Lib.hid (RB.of_ownN hown)
  have HO := Lib.hid hown
  have hlz' := Lib.hid hlz
  clear hown
  rw [hlz] at HF
  clear hlz
  generalize sgHead0 sp dp sq ak fl wn ++ xs = zs at hcl HH HF HRZ HO hlz'
  generalize segSum src dst zs = z at hcl HH HF
  have KH := Lib.hid (refHeadI src dst (20 + n) (20 + (n : Int)) (by omega) hs hd (by omega) w14.drew)
  have ha := Sm.add_le 0 (segHd src dst (20 + n))
  have haz := Sm.add_le (Sm.add 0 (segHd src dst (20 + n))) zs
  have HRZd : Hid (RB w14.drew w14.drew.heap.size (some ⟨g, 0, none⟩) zs) := Lib.hid HRZ.out
  have K1A := Lib.hid (fun A p (w : World) hr => refAddN 0 0 rfl (by omega) (segHd src dst (20 + n)) 12 (segHd_length _ _ _) A p w hr (by omega))
  have K2A := Lib.hid (fun (w : World) hr => refAddN (Sm.add 0 (segHd src dst (20 + n))) _ rfl ha zs (20 + n) hlz'.out (some ⟨g, 0, none⟩) p14 w hr (by omega))
  generalize Sm.add 0 (segHd src dst (20 + n)) = a at HF ha haz K1A K2A
  generalize Sm.add a zs = y at HF haz K2A
  have hF := HF.out
  have hFw : IntKind.i64.wrap (z : Int) = (z : Int) := IntWalk.i64_in _ (by omega)
  have KB := Lib.hid (fun w : World => big_walk (z : Int) 2 z 2 rfl rfl (by omega) (by omega) w)
  have hc2 : ¬ p14 = 16 := by omega
  have h16 : (16 : Int) ≤ 20 + (n : Int) := by omega
  have h16' : (16 : Int) ≤ ((20 + n : Nat) : Int) := by omega
  have hln : ((20 + n : Nat) : Int) = 20 + (n : Int) := by omega
  go_wp2_with fail
  go_region_law (first
    | (go_simp; go_at_call 92; (with_reducible refine KH.out.mono ?_); rintro e w15 ⟨A15, p15, rfl, hown15, hb15⟩)
    | (go_simp; go_at_call 91; (with_reducible refine (K1A.out A15 p15 w15 (RB.of_ownN hown15)).mono ?_); rintro e w' ⟨rfl, rfl⟩)
    | (go_simp; go_at_call 91; (with_reducible refine (K2A.out w15 (RB.next HRZd.out hb15)).mono ?_); rintro e w' ⟨rfl, rfl⟩)
    | (go_simp; go_at_call 90; (with_reducible refine (KB.out _).mono ?_); rintro e w16 ⟨A16, p16, rfl, hown16, hb16⟩)
    | (refine step_copy_bytes rfl _ _ _ _ rfl 5 Tryz.underlying31 size_u8 g 16 (20 + n - 16) (p14 - 16) A16 2 p16 (by exact rfl) (by exact rfl) w1.heap.size (20 + n) p14 zs (big 2 z) (own_below (own_below HO.out.drew hb15) hb16) (RB.of_ownN hown16) rfl (by rw [big_length]; omega) (by rw [big_length]; omega) (by rw [big_length]; omega) ?_; intro w17 hown17 O17))
  all_goals
    have hb16' := Lib.hid (O17.below _ _ ((HB14.out.drew.trans (hb15.mono hz14)).trans (hb16.mono (Nat.le_trans hz14 hb15.size))) hg)
    have HO17 : Hid (w17.ownsRow w1.heap.size 5 1 (.slice (some ⟨g, 0, none⟩) (20 + n) p14) (20 + n) ((sgBytes src dst sp dp sq ak fl wn xs).map bv)) := by
      unfold Hid
      have e := hown17
      rw [big_length, icmpBig2, splice2 zs 16 _ _ (by rw [hlz'.out]; omega)] at e
      rw [← HH.out]
      exact e
    clear hown17 O17 hown15 hb15 hown16 hb16 K1A K2A KB KH
    go_wp2
    go_ret
    exact ⟨some ⟨g, 0, none⟩, p14, rfl, own_base HO17.out (Nat.le_of_lt hs1), hb01.out.trans (hb16'.out.mono (Nat.le_of_lt hs1))⟩

end Go.Proofs.YtlacidnnankjlaaGreatDoor

/-
  The walk of seg.Parse.
-/
namespace Go.Proofs.YtlacidnnankjlaaGreatDoor
open Go.RowKit

/-- a segment (or none) and an error, its bytes in the call's own memory. -/
def SegParsed (w : World) (r : Sg × Int) (e : Ending) (w' : World) : Prop :=
  ∃ A c, e = .returned (.tuple #[.agg #[.int .i64 r.1.sp, .int .i64 r.1.dp, .int .i64 r.1.sq, .int .i64 r.1.ak, .int .i64 r.1.fl, .int .i64 r.1.wn, .slice A r.1.xs.length c], .int .i64 r.2]) ∧ w'.ownsRow w.heap.size 5 1 (.slice A r.1.xs.length c) r.1.xs.length (r.1.xs.map bv) ∧ Below w.heap.size w w'
theorem segParsed_none (w : World) (k : Int) (w' : World) (hb : Below w.heap.size w w') : SegParsed w (.zero, k) (.returned (.tuple #[.agg #[.int .i64 0, .int .i64 0, .int .i64 0, .int .i64 0, .int .i64 0, .int .i64 0, .slice none 0 0], .int .i64 k])) w' :=
  ⟨none, 0, rfl, World.ownsRow_nil _ _ _ _, hb⟩
theorem and63 (x : UInt8) : bits .and .i64 (x.toNat : Int) 63 = ((x.toNat % 64 : Nat) : Int) := by
  have := i64_and_nat x.toNat 63 (by have := x.toNat_lt; omega) (by omega)
  rw [show (63 : Nat) = 2 ^ 6 - 1 from rfl, Nat.and_two_pow_sub_one_eq_mod] at this
  exact this
theorem and63u (x : UInt8) : bits .and .u8 (x.toNat : Int) 63 = ((x.toNat % 64 : Nat) : Int) := by
  have := u8_and_nat x.toNat 63 (by have := x.toNat_lt; omega) (by omega)
  rw [show (63 : Nat) = 2 ^ 6 - 1 from rfl, Nat.and_two_pow_sub_one_eq_mod] at this
  exact this
theorem cutEnd {w : World} {B g o : Nat} {xs : List UInt8} (h : RB w B (some ⟨g, o, none⟩) xs) (N : Nat) (hN : N ≤ xs.length) : RB w B (some ⟨g, o + N, none⟩) (xs.drop N) := by
  have := cutAt h N xs.length hN (Nat.le_refl _)
  rwa [List.take_of_length_le (Nat.le_refl _)] at this
theorem refWordV (n : Int) (b : Bool) (h : wordB n = b) (w : World) : Calls Tryz.prog 23 #[.int .i64 n] w fun e w' => e = .returned (.bool b) ∧ w = w' := by
  subst h
  exact refWord n w

set_option maxRecDepth 100000 in
set_option maxHeartbeats 1600000 in
theorem segParse_no (src dst : Int) (n c : Nat) (A : Option Addr) (bs bd : Bool) (hs : wordB src = bs) (hd : wordB dst = bd) (h : (bs && bd) = false) (w : World) :
    Calls Tryz.prog 87 #[.int .i64 src, .int .i64 dst, .slice A n c] w (SegParsed w (.zero, 1)) := by
  have HB := Lib.hid (balloc w (.cells #[.int .i64 0, .int .i64 0, .int .i64 0, .int .i64 0, .int .i64 0, .int .i64 0, .slice none 0 0] 36))
  have KI1 := Lib.hid (fun w => segIPV src bs hs w)
  have KI2 := Lib.hid (fun w => segIPV dst bd hd w)
  clear hs hd
  have hc : bs = false ∨ (bs = true ∧ bd = false) := by
    cases bs <;> cases bd <;> simp at h ⊢
  clear h
  rcases hc with rfl | ⟨rfl, rfl⟩
  · skip
    go_enter Tryz.func87, Tryz.ntmps87
    go_wp2_with fail
    refine wp_scope_fwd 0 rfl ?_
    go_wp2_with fail
    (with_reducible refine (KI1.out _).mono ?_)
    rintro e w' ⟨rfl, rfl⟩
    go_wp2
    go_step3
    refine ⟨rfl, ?_⟩
    go_wp2
    simp only [Exit.jump]
    refine bodyPost_ret (v := .tuple #[.agg #[.int .i64 0, .int .i64 0, .int .i64 0, .int .i64 0, .int .i64 0, .int .i64 0, .slice none 0 0], .int .i64 1]) (by simp [results, Tryz.results87, go_sem]) rfl ?_
    exact segParsed_none w 1 _ HB.out
  · skip
    go_enter Tryz.func87, Tryz.ntmps87
    go_wp2_with fail
    refine wp_scope_fwd 0 rfl ?_
    go_wp2_with fail
    (with_reducible refine (KI1.out _).mono ?_)
    rintro e w' ⟨rfl, rfl⟩
    go_wp2_with fail
    (with_reducible refine (KI2.out _).mono ?_)
    rintro e w' ⟨rfl, rfl⟩
    go_wp2
    go_step3
    refine ⟨rfl, ?_⟩
    go_wp2
    simp only [Exit.jump]
    refine bodyPost_ret (v := .tuple #[.agg #[.int .i64 0, .int .i64 0, .int .i64 0, .int .i64 0, .int .i64 0, .int .i64 0, .slice none 0 0], .int .i64 1]) (by simp [results, Tryz.results87, go_sem]) rfl ?_
    exact segParsed_none w 1 _ HB.out

set_option maxRecDepth 100000 in
set_option maxHeartbeats 3200000 in
theorem segParse_len (src dst : Nat) (hs : src < 4294967296) (hd : dst < 4294967296) (xs : List UInt8) (n : Nat) (hl : xs.length = n) (A : Option Addr) (c : Nat) (w : World) (hx : RB w w.heap.size A xs) (hn : n ≤ 140737488351232) (k : Int)
    (h : (n < 20 ∧ k = 7) ∨ (20 ≤ n ∧ sgN xs < 20 ∧ k = 1) ∨ (20 ≤ n ∧ 20 ≤ sgN xs ∧ n < sgN xs ∧ k = 7) ∨ (20 ≤ n ∧ 20 ≤ sgN xs ∧ sgN xs ≤ n ∧ 1480 < n ∧ k = 2)) :
    Calls Tryz.prog 87 #[.int .i64 src, .int .i64 dst, .slice A n c] w (SegParsed w (.zero, k)) := by
  have hbA := balloc w (.cells #[.int .i64 0, .int .i64 0, .int .i64 0, .int .i64 0, .int .i64 0, .int .i64 0, .slice none 0 0] 36)
  have HB := Lib.hid hbA
  have KI1 := Lib.hid (fun w => segIPV (src : Int) true (word_nat src hs) w)
  have KI2 := Lib.hid (fun w => segIPV (dst : Int) true (word_nat dst hd) w)
  rcases h with ⟨h20, rfl⟩ | h
  · have h20' : (n : Int) < 20 := by omega
    clear hl hbA hx
    go_enter Tryz.func87, Tryz.ntmps87
    go_wp2_with fail
    refine wp_scope_fwd 0 rfl ?_
    go_wp2_with fail
    (with_reducible refine (KI1.out _).mono ?_)
    rintro e w' ⟨rfl, rfl⟩
    go_wp2_with fail
    (with_reducible refine (KI2.out _).mono ?_)
    rintro e w' ⟨rfl, rfl⟩
    go_wp2
    go_step3
    refine ⟨rfl, ?_⟩
    go_wp2
    simp only [Exit.jump]
    refine bodyPost_ret (v := .tuple #[.agg #[.int .i64 0, .int .i64 0, .int .i64 0, .int .i64 0, .int .i64 0, .int .i64 0, .slice none 0 0], .int .i64 7]) (by simp [results, Tryz.results87, go_sem]) rfl ?_
    exact segParsed_none w 7 _ HB.out
  · have h20 : 20 ≤ n := by omega
    obtain ⟨b0, o0, x0, rfl, hb, hx0, c0⟩ := hx.get (k := 12) (by omega)
    have i12 : (12 : Int) < (n : Int) := by omega
    have h20' : ¬ (n : Int) < 20 := by omega
    have cA := (cellB hbA (o := o0 + 12) hb).trans c0
    have hb8 : b8 xs 12 = x0.toNat := b8_of hx0
    obtain ⟨N, hN⟩ : ∃ N, N = 4 * (x0.toNat / 16) := ⟨_, rfl⟩
    obtain ⟨K, hK⟩ : ∃ K, K = x0.toNat / 16 := ⟨_, rfl⟩
    have hKI : (x0.toNat : Int) / 16 = (K : Int) := by omega
    have hK15 : (K : Int) ≤ 15 := by have := x0.toNat_lt; omega
    have hNI : 4 * (K : Int) = (N : Int) := by omega
    have hNx : sgN xs = N := by unfold sgN; rw [hb8]; exact hN.symm
    rw [hNx] at h
    rcases h with ⟨_, hN20, rfl⟩ | ⟨_, hN20, hnN, rfl⟩ | ⟨_, hN20, hnN, h1480, rfl⟩
    · have hN20' : (N : Int) < 20 := by omega
      clear hl hx0 hb8 hNx hN hbA c0 hK
      go_enter Tryz.func87, Tryz.ntmps87
      go_wp2_with fail
      refine wp_scope_fwd 0 rfl ?_
      go_wp2_with fail
      (with_reducible refine (KI1.out _).mono ?_)
      rintro e w' ⟨rfl, rfl⟩
      go_wp2_with fail
      (with_reducible refine (KI2.out _).mono ?_)
      rintro e w' ⟨rfl, rfl⟩
      go_wp2
      go_step3
      refine ⟨rfl, ?_⟩
      go_wp2
      simp only [Exit.jump]
      refine bodyPost_ret (v := .tuple #[.agg #[.int .i64 0, .int .i64 0, .int .i64 0, .int .i64 0, .int .i64 0, .int .i64 0, .slice none 0 0], .int .i64 1]) (by simp [results, Tryz.results87, go_sem]) rfl ?_
      exact segParsed_none w 1 _ HB.out
    · have hN20' : ¬ (N : Int) < 20 := by omega
      have hnN' : (n : Int) < (N : Int) := by omega
      clear hl hx0 hb8 hNx hN hbA c0 hK
      go_enter Tryz.func87, Tryz.ntmps87
      go_wp2_with fail
      refine wp_scope_fwd 0 rfl ?_
      go_wp2_with fail
      (with_reducible refine (KI1.out _).mono ?_)
      rintro e w' ⟨rfl, rfl⟩
      go_wp2_with fail
      (with_reducible refine (KI2.out _).mono ?_)
      rintro e w' ⟨rfl, rfl⟩
      go_wp2
      go_step3
      refine ⟨rfl, ?_⟩
      go_wp2
      simp only [Exit.jump]
      refine bodyPost_ret (v := .tuple #[.agg #[.int .i64 0, .int .i64 0, .int .i64 0, .int .i64 0, .int .i64 0, .int .i64 0, .slice none 0 0], .int .i64 7]) (by simp [results, Tryz.results87, go_sem]) rfl ?_
      exact segParsed_none w 7 _ HB.out
    · have hN20' : ¬ (N : Int) < 20 := by omega
      have hnN' : ¬ (n : Int) < (N : Int) := by omega
      have h1480' : (1480 : Int) < (n : Int) := by omega
      clear hl hx0 hb8 hNx hN hbA c0 hK
      go_enter Tryz.func87, Tryz.ntmps87
      go_wp2_with fail
      refine wp_scope_fwd 0 rfl ?_
      go_wp2_with fail
      (with_reducible refine (KI1.out _).mono ?_)
      rintro e w' ⟨rfl, rfl⟩
      go_wp2_with fail
      (with_reducible refine (KI2.out _).mono ?_)
      rintro e w' ⟨rfl, rfl⟩
      go_wp2
      go_step3
      refine ⟨rfl, ?_⟩
      go_wp2
      simp only [Exit.jump]
      refine bodyPost_ret (v := .tuple #[.agg #[.int .i64 0, .int .i64 0, .int .i64 0, .int .i64 0, .int .i64 0, .int .i64 0, .slice none 0 0], .int .i64 2]) (by simp [results, Tryz.results87, go_sem]) rfl ?_
      exact segParsed_none w 2 _ HB.out

set_option maxRecDepth 100000 in
set_option maxHeartbeats 3200000 in
theorem segParse_sum (src dst : Nat) (hs : src < 4294967296) (hd : dst < 4294967296) (xs : List UInt8) (n : Nat) (hl : xs.length = n) (A : Option Addr) (c : Nat) (_hnc : n ≤ c) (w : World) (hx : RB w w.heap.size A xs)
    (h20 : 20 ≤ n) (hN20 : 20 ≤ sgN xs) (hnN : sgN xs ≤ n) (h1480 : n ≤ 1480) (hF0 : segSum src dst xs ≠ 0)  :
    Calls Tryz.prog 87 #[.int .i64 src, .int .i64 dst, .slice A n c] w (SegParsed w (.zero, 8)) := by
  have hbA := balloc w (.cells #[.int .i64 0, .int .i64 0, .int .i64 0, .int .i64 0, .int .i64 0, .int .i64 0, .slice none 0 0] 36)
  have HB := Lib.hid hbA
  have KI1 := Lib.hid (fun w => segIPV (src : Int) true (word_nat src hs) w)
  have KI2 := Lib.hid (fun w => segIPV (dst : Int) true (word_nat dst hd) w)
  obtain ⟨b0, o0, x0, rfl, hb, hx0, c0⟩ := hx.get (k := 12) (by omega)
  have i12 : (12 : Int) < (n : Int) := by omega
  have h20' : ¬ (n : Int) < 20 := by omega
  have cA := (cellB hbA (o := o0 + 12) hb).trans c0
  have hb8 : b8 xs 12 = x0.toNat := b8_of hx0
  obtain ⟨N, hN⟩ : ∃ N, N = 4 * (x0.toNat / 16) := ⟨_, rfl⟩
  obtain ⟨K, hK⟩ : ∃ K, K = x0.toNat / 16 := ⟨_, rfl⟩
  have hKI : (x0.toNat : Int) / 16 = (K : Int) := by omega
  have hK15 : (K : Int) ≤ 15 := by have := x0.toNat_lt; omega
  have hNI : 4 * (K : Int) = (N : Int) := by omega
  have hNx : sgN xs = N := by unfold sgN; rw [hb8]; exact hN.symm
  rw [hNx] at hN20 hnN 
  have hN20' : ¬ (N : Int) < 20 := by omega
  have hnN' : ¬ (n : Int) < (N : Int) := by omega
  have h1480' : ¬ (1480 : Int) < (n : Int) := by omega
  have hxA := hx.next hbA
  have hbz := Lib.hid (SgF.box w (.int .i64 0) (.int .i64 0) (.int .i64 0) (.int .i64 0) (.int .i64 0) (.int .i64 0) (.slice none 0 0) 36)
  have hsA : w.heap.size < (w.alloc (.cells #[.int .i64 0, .int .i64 0, .int .i64 0, .int .i64 0, .int .i64 0, .int .i64 0, .slice none 0 0] 36)).heap.size := lt_alloc _ _
  have HXA := Lib.hid hxA
  have KC := Lib.hid (segCheck src dst hs hd xs n hl (some ⟨b0, o0, none⟩) c _ hxA (by omega))
  obtain ⟨S, hS⟩ : ∃ S, segSum src dst xs = S := ⟨_, rfl⟩
  rw [hS] at KC hF0
  have hSq : ((S : Int) != 0) = true := by simp only [bne_iff_ne, ne_eq]; omega
  have hl' := Lib.hid hl
  have hNx' := Lib.hid hNx
  have hS0 := Lib.hid hF0
  clear hl hx0 hb8 hNx hN hbA c0 hx hxA hF0 hK hS
  go_enter Tryz.func87, Tryz.ntmps87
  go_wp2_with fail
  refine wp_scope_fwd 0 rfl ?_
  go_wp2_with fail
  (with_reducible refine (KI1.out _).mono ?_)
  rintro e w' ⟨rfl, rfl⟩
  go_wp2_with fail
  (with_reducible refine (KI2.out _).mono ?_)
  rintro e w' ⟨rfl, rfl⟩
  go_wp2_with fail
  generalize w.alloc (.cells #[.int .i64 0, .int .i64 0, .int .i64 0, .int .i64 0, .int .i64 0, .int .i64 0, .slice none 0 0] 36) = w2 at HB hbz hsA HXA cA KC ⊢
  (with_reducible refine KC.out.mono ?_)
  rintro e w3 ⟨rfl, hb23⟩
  clear KC
  have HB3 := Lib.hid (HB.out.trans (hb23.mono HB.out.size))
  have HX3 := Lib.hid (HXA.out.next hb23)
  have HZ3 := Lib.hid (hbz.out.below hb23 hsA)
  have hs3 : w.heap.size < w3.heap.size := Nat.lt_of_lt_of_le hsA hb23.size
  clear hb23 hbz HXA HB cA
  obtain ⟨⟨z0, z1, z2, z3, z4, z5, z6⟩, hz⟩ := HZ3.out
  have y0 := hz 0
  have y1 := hz 1
  have y2 := hz 2
  have y3 := hz 3
  have y4 := hz 4
  have y5 := hz 5
  have y6 := hz 6
  clear hz
  go_wp2
  go_step3
  refine ⟨rfl, ?_⟩
  go_wp2
  simp only [Exit.jump]
  have hpz := setSg_at (SgAt.of z0 z1 z2 z3 z4 z5 z6) (.int .i64 0) (.int .i64 0) (.int .i64 0) (.int .i64 0) (.int .i64 0) (.int .i64 0) (.slice none 0 0)
  have hbz := (setSg_only w3 w.heap.size (.int .i64 0) (.int .i64 0) (.int .i64 0) (.int .i64 0) (.int .i64 0) (.int .i64 0) (.slice none 0 0)).below _ _ HB3.out (Nat.le_refl _)
  show bodyPost _ _ _ _ _ (setSg w3 w.heap.size (.int .i64 0) (.int .i64 0) (.int .i64 0) (.int .i64 0) (.int .i64 0) (.int .i64 0) (.slice none 0 0))
  generalize setSg w3 w.heap.size (.int .i64 0) (.int .i64 0) (.int .i64 0) (.int .i64 0) (.int .i64 0) (.int .i64 0) (.slice none 0 0) = w4 at hpz hbz ⊢
  clear z0 z1 z2 z3 z4 z5 z6
  obtain ⟨z0, z1, z2, z3, z4, z5, z6⟩ := hpz
  refine bodyPost_ret (v := .tuple #[.agg #[.int .i64 0, .int .i64 0, .int .i64 0, .int .i64 0, .int .i64 0, .int .i64 0, .slice none 0 0], .int .i64 8]) (by simp [results, Tryz.results87, go_sem, z0, z1, z2, z3, z4, z5, z6]) rfl ?_
  exact segParsed_none w 8 _ hbz

set_option maxRecDepth 100000 in
set_option maxHeartbeats 3200000 in
theorem segParse_ok (src dst : Nat) (hs : src < 4294967296) (hd : dst < 4294967296) (xs : List UInt8) (n : Nat) (hl : xs.length = n) (A : Option Addr) (c : Nat) (hnc : n ≤ c) (w : World) (hx : RB w w.heap.size A xs)
    (h20 : 20 ≤ n) (hN20 : 20 ≤ sgN xs) (hnN : sgN xs ≤ n) (h1480 : n ≤ 1480) (hF0 : segSum src dst xs = 0) (hcN : ¬ c = sgN xs) :
    Calls Tryz.prog 87 #[.int .i64 src, .int .i64 dst, .slice A n c] w (SegParsed w (sgParsed xs, 0)) := by
  have hbA := balloc w (.cells #[.int .i64 0, .int .i64 0, .int .i64 0, .int .i64 0, .int .i64 0, .int .i64 0, .slice none 0 0] 36)
  have HB := Lib.hid hbA
  have KI1 := Lib.hid (fun w => segIPV (src : Int) true (word_nat src hs) w)
  have KI2 := Lib.hid (fun w => segIPV (dst : Int) true (word_nat dst hd) w)
  obtain ⟨b0, o0, x0, rfl, hb, hx0, c0⟩ := hx.get (k := 12) (by omega)
  have i12 : (12 : Int) < (n : Int) := by omega
  have h20' : ¬ (n : Int) < 20 := by omega
  have cA := (cellB hbA (o := o0 + 12) hb).trans c0
  have hb8 : b8 xs 12 = x0.toNat := b8_of hx0
  obtain ⟨N, hN⟩ : ∃ N, N = 4 * (x0.toNat / 16) := ⟨_, rfl⟩
  obtain ⟨K, hK⟩ : ∃ K, K = x0.toNat / 16 := ⟨_, rfl⟩
  have hKI : (x0.toNat : Int) / 16 = (K : Int) := by omega
  have hK15 : (K : Int) ≤ 15 := by have := x0.toNat_lt; omega
  have hNI : 4 * (K : Int) = (N : Int) := by omega
  have hNx : sgN xs = N := by unfold sgN; rw [hb8]; exact hN.symm
  rw [hNx] at hN20 hnN hcN
  have hN20' : ¬ (N : Int) < 20 := by omega
  have hnN' : ¬ (n : Int) < (N : Int) := by omega
  have h1480' : ¬ (1480 : Int) < (n : Int) := by omega
  have hxA := hx.next hbA
  have hbz := Lib.hid (SgF.box w (.int .i64 0) (.int .i64 0) (.int .i64 0) (.int .i64 0) (.int .i64 0) (.int .i64 0) (.slice none 0 0) 36)
  have hsA : w.heap.size < (w.alloc (.cells #[.int .i64 0, .int .i64 0, .int .i64 0, .int .i64 0, .int .i64 0, .int .i64 0, .slice none 0 0] 36)).heap.size := lt_alloc _ _
  have HXA := Lib.hid hxA
  have KC := Lib.hid (segCheck src dst hs hd xs n hl (some ⟨b0, o0, none⟩) c _ hxA (by omega))
  obtain ⟨S, hS⟩ : ∃ S, segSum src dst xs = S := ⟨_, rfl⟩
  rw [hS] at KC hF0
  have hSq : ((S : Int) != 0) = false := by simp only [bne_eq_false_iff_eq]; omega
  have hl' := Lib.hid hl
  have hNx' := Lib.hid hNx
  have hS0 := Lib.hid hF0
  clear hl hx0 hb8 hNx hN hbA c0 hx hxA hF0 hK hS
  go_enter Tryz.func87, Tryz.ntmps87
  go_wp2_with fail
  refine wp_scope_fwd 0 rfl ?_
  go_wp2_with fail
  (with_reducible refine (KI1.out _).mono ?_)
  rintro e w' ⟨rfl, rfl⟩
  go_wp2_with fail
  (with_reducible refine (KI2.out _).mono ?_)
  rintro e w' ⟨rfl, rfl⟩
  go_wp2_with fail
  generalize w.alloc (.cells #[.int .i64 0, .int .i64 0, .int .i64 0, .int .i64 0, .int .i64 0, .int .i64 0, .slice none 0 0] 36) = w2 at HB hbz hsA HXA cA KC ⊢
  (with_reducible refine KC.out.mono ?_)
  rintro e w3 ⟨rfl, hb23⟩
  clear KC
  have HB3 := Lib.hid (HB.out.trans (hb23.mono HB.out.size))
  have HX3 := Lib.hid (HXA.out.next hb23)
  have HZ3 := Lib.hid (hbz.out.below hb23 hsA)
  have hs3 : w.heap.size < w3.heap.size := Nat.lt_of_lt_of_le hsA hb23.size
  clear hb23 hbz HXA HB cA
  obtain ⟨b9', o9, x9, ad9, hb9', hx9, c9⟩ := HX3.out.get (k := 13) (by rw [hl'.out]; omega)
  obtain ⟨rfl, rfl⟩ := RB.same_at rfl ad9
  have hx9' := Lib.hid hx9
  clear hx9 ad9
  have i13 : (13 : Int) < (n : Int) := by omega
  have s1 : (2 : Int) ≤ (c : Int) := by omega
  have s2 : (4 : Int) ≤ (c : Int) := by omega
  have s3 : (8 : Int) ≤ (c : Int) := by omega
  have s4 : (12 : Int) ≤ (c : Int) := by omega
  have s5 : (16 : Int) ≤ (c : Int) := by omega
  have u1 : ¬ c = 2 := by omega
  have u2 : ¬ c = 4 := by omega
  have u3 : ¬ c = 8 := by omega
  have u4 : ¬ c = 14 := by omega
  have wr9 := wrap_byte x9
  have a9 := and63 x9
  have a9' : ((x9.toNat % 64 : Nat) : Int) = (x9.toNat : Int) % 64 := by omega
  have w9' : IntKind.i64.wrap ((x9.toNat % 64 : Nat) : Int) = ((x9.toNat % 64 : Nat) : Int) := IntWalk.i64_in _ (by omega)
  obtain ⟨r9, hr9⟩ : ∃ r9, r9 = x9.toNat % 64 := ⟨_, rfl⟩
  rw [← hr9] at a9 a9' w9'
  have hr9' := Lib.hid hr9
  clear hr9 a9'
  have HG0 : Hid (Calls Tryz.prog 117 #[.slice (some ⟨b9', o9, none⟩) 2 c] w3.drew fun e w' => e = .returned (.int .i64 ((num2 xs 0 2 : Nat) : Int)) ∧ w3.drew = w') := Lib.hid (getAt xs n hl'.out b9' o9 c w3.drew HX3.out 0 2 (by omega) (by omega) (by omega) _ rfl)
  have HG1 := Lib.hid (getAt xs n hl'.out b9' o9 (c - 2) w3.drew HX3.out 2 2 (by omega) (by omega) (by omega) _ rfl)
  have HG2 := Lib.hid (getAt xs n hl'.out b9' o9 (c - 4) w3.drew HX3.out 4 4 (by omega) (by omega) (by omega) _ rfl)
  have HG3 := Lib.hid (getAt xs n hl'.out b9' o9 (c - 8) w3.drew HX3.out 8 4 (by omega) (by omega) (by omega) _ rfl)
  have HG4 := Lib.hid (getAt xs n hl'.out b9' o9 (c - 14) w3.drew HX3.out 14 2 (by omega) (by omega) (by omega) _ rfl)
  have KL := Lib.hid (clone (xs.drop N) (n - N) (by rw [List.length_drop, hl'.out]) (some ⟨b9', o9 + N, none⟩) (c - N) w3.drew (cutEnd HX3.out N (by have := hl'.out; omega)) (by omega))
  have hne : b9' ≠ w.heap.size := by omega
  have hne' : w.heap.size ≠ b9' := by omega
  go_wp2_with fail
  go_region_held3 (fun w' => w'.cell? ⟨b9', o9 + 13, none⟩ = some (.int .u8 (x9.toNat : Int))) (go_keep)
    (first
      | (go_at_call 117; (with_reducible refine HG0.out.mono ?_); rintro e w' ⟨rfl, rfl⟩)
      | (go_at_call 117; (with_reducible refine HG1.out.mono ?_); rintro e w' ⟨rfl, rfl⟩)
      | (go_at_call 117; (with_reducible refine HG2.out.mono ?_); rintro e w' ⟨rfl, rfl⟩)
      | (go_at_call 117; (with_reducible refine HG3.out.mono ?_); rintro e w' ⟨rfl, rfl⟩)
      | (go_at_call 117; (with_reducible refine HG4.out.mono ?_); rintro e w' ⟨rfl, rfl⟩)
      | (go_at_call 80; (with_reducible refine KL.out.mono ?_); rintro e w4 ⟨A3, c3, rfl, hown3, hb3⟩; obtain ⟨⟨z0, z1, z2, z3, z4, z5, z6⟩, hz⟩ := SgF.below (w := w3.drew) HZ3.out hb3 hs3; have e9 := (cellB hb3 (o := o9 + 13) hb9').trans (show w3.drew.cell? ⟨b9', o9 + 13, none⟩ = _ from c9); have y0 := hz 0; have y1 := hz 1; have y2 := hz 2; have y3 := hz 3; have y4 := hz 4; have y5 := hz 5; have y6 := hz 6; clear hz))
  have hown3' : w4.ownsRow w3.heap.size 5 1 (.slice A3 (n - N) c3) (n - N) ((xs.drop N : List UInt8).map bv) := hown3
  obtain ⟨hp4, _, _, _, hb4⟩ := setSg_fin (SgAt.of z0 z1 z2 z3 z4 z5 z6) (.int .i64 ((num2 xs 0 2 : Nat) : Int)) (.int .i64 ((num2 xs 2 2 : Nat) : Int)) (.int .i64 ((num2 xs 4 4 : Nat) : Int)) (.int .i64 ((num2 xs 8 4 : Nat) : Int)) (.int .i64 (r9 : Int)) (.int .i64 ((num2 xs 14 2 : Nat) : Int)) hown3' (own_ne hown3' (Or.inl hs3)) (HB3.out.drew.trans (hb3.mono HB3.out.size)) (Nat.le_refl _) (Nat.lt_of_lt_of_le hs3 hb3.size)
  have hown4 := hown3'.kept (setSg_grown w4 w.heap.size (.int .i64 ((num2 xs 0 2 : Nat) : Int)) (.int .i64 ((num2 xs 2 2 : Nat) : Int)) (.int .i64 ((num2 xs 4 4 : Nat) : Int)) (.int .i64 ((num2 xs 8 4 : Nat) : Int)) (.int .i64 (r9 : Int)) (.int .i64 ((num2 xs 14 2 : Nat) : Int)) (.slice A3 (n - N) c3)) (Or.inr (Ne.symm (own_ne hown3' (Or.inl hs3))))
  clear z0 z1 z2 z3 z4 z5 z6 y0 y1 y2 y3 y4 y5 y6 e9 hown3 hown3' hb3 HG0 HG1 HG2 HG3 HG4 KL
  show Exit.then _ _ _ _ (setSg w4 w.heap.size (.int .i64 ((num2 xs 0 2 : Nat) : Int)) (.int .i64 ((num2 xs 2 2 : Nat) : Int)) (.int .i64 ((num2 xs 4 4 : Nat) : Int)) (.int .i64 ((num2 xs 8 4 : Nat) : Int)) (.int .i64 (r9 : Int)) (.int .i64 ((num2 xs 14 2 : Nat) : Int)) (.slice A3 (n - N) c3))
  generalize setSg w4 w.heap.size (.int .i64 ((num2 xs 0 2 : Nat) : Int)) (.int .i64 ((num2 xs 2 2 : Nat) : Int)) (.int .i64 ((num2 xs 4 4 : Nat) : Int)) (.int .i64 ((num2 xs 8 4 : Nat) : Int)) (.int .i64 (r9 : Int)) (.int .i64 ((num2 xs 14 2 : Nat) : Int)) (.slice A3 (n - N) c3) = w5 at hp4 hown4 hb4 ⊢
  obtain ⟨z0, z1, z2, z3, z4, z5, z6⟩ := hp4
  go_wp2
  simp only [Exit.jump]
  refine bodyPost_ret (v := .tuple #[.agg #[.int .i64 ((num2 xs 0 2 : Nat) : Int), .int .i64 ((num2 xs 2 2 : Nat) : Int), .int .i64 ((num2 xs 4 4 : Nat) : Int), .int .i64 ((num2 xs 8 4 : Nat) : Int), .int .i64 (r9 : Int), .int .i64 ((num2 xs 14 2 : Nat) : Int), .slice A3 (n - N) c3], .int .i64 0]) (by simp [results, Tryz.results87, go_sem, z0, z1, z2, z3, z4, z5, z6]) rfl ?_
  have hlen : (xs.drop N).length = (n - N) := by rw [List.length_drop, hl'.out]
  have hP : sgParsed xs = ⟨(num2 xs 0 2 : Nat), (num2 xs 2 2 : Nat), (num2 xs 4 4 : Nat), (num2 xs 8 4 : Nat), (r9 : Int), (num2 xs 14 2 : Nat), xs.drop N⟩ := by
    unfold sgParsed
    rw [hNx'.out, b8_of hx9'.out, hr9'.out]
  rw [hP]
  refine ⟨A3, c3, ?_, ?_, hb4⟩
  · simp only [hlen]
  · simp only [hlen]
    skip
    exact own_base hown4 (Nat.le_of_lt hs3)

set_option maxRecDepth 100000 in
set_option maxHeartbeats 3200000 in
theorem segParse_ok0 (src dst : Nat) (hs : src < 4294967296) (hd : dst < 4294967296) (xs : List UInt8) (n : Nat) (hl : xs.length = n) (A : Option Addr) (c : Nat) (hnc : n ≤ c) (w : World) (hx : RB w w.heap.size A xs)
    (h20 : 20 ≤ n) (hN20 : 20 ≤ sgN xs) (hnN : sgN xs ≤ n) (h1480 : n ≤ 1480) (hF0 : segSum src dst xs = 0) (hcN : c = sgN xs) :
    Calls Tryz.prog 87 #[.int .i64 src, .int .i64 dst, .slice A n c] w (SegParsed w (sgParsed xs, 0)) := by
  have hbA := balloc w (.cells #[.int .i64 0, .int .i64 0, .int .i64 0, .int .i64 0, .int .i64 0, .int .i64 0, .slice none 0 0] 36)
  have HB := Lib.hid hbA
  have KI1 := Lib.hid (fun w => segIPV (src : Int) true (word_nat src hs) w)
  have KI2 := Lib.hid (fun w => segIPV (dst : Int) true (word_nat dst hd) w)
  obtain ⟨b0, o0, x0, rfl, hb, hx0, c0⟩ := hx.get (k := 12) (by omega)
  have i12 : (12 : Int) < (n : Int) := by omega
  have h20' : ¬ (n : Int) < 20 := by omega
  have cA := (cellB hbA (o := o0 + 12) hb).trans c0
  have hb8 : b8 xs 12 = x0.toNat := b8_of hx0
  obtain ⟨N, hN⟩ : ∃ N, N = 4 * (x0.toNat / 16) := ⟨_, rfl⟩
  obtain ⟨K, hK⟩ : ∃ K, K = x0.toNat / 16 := ⟨_, rfl⟩
  have hKI : (x0.toNat : Int) / 16 = (K : Int) := by omega
  have hK15 : (K : Int) ≤ 15 := by have := x0.toNat_lt; omega
  have hNI : 4 * (K : Int) = (N : Int) := by omega
  have hNx : sgN xs = N := by unfold sgN; rw [hb8]; exact hN.symm
  rw [hNx] at hN20 hnN hcN
  have hN20' : ¬ (N : Int) < 20 := by omega
  have hnN' : ¬ (n : Int) < (N : Int) := by omega
  have h1480' : ¬ (1480 : Int) < (n : Int) := by omega
  have hxA := hx.next hbA
  have hbz := Lib.hid (SgF.box w (.int .i64 0) (.int .i64 0) (.int .i64 0) (.int .i64 0) (.int .i64 0) (.int .i64 0) (.slice none 0 0) 36)
  have hsA : w.heap.size < (w.alloc (.cells #[.int .i64 0, .int .i64 0, .int .i64 0, .int .i64 0, .int .i64 0, .int .i64 0, .slice none 0 0] 36)).heap.size := lt_alloc _ _
  have HXA := Lib.hid hxA
  have KC := Lib.hid (segCheck src dst hs hd xs n hl (some ⟨b0, o0, none⟩) c _ hxA (by omega))
  obtain ⟨S, hS⟩ : ∃ S, segSum src dst xs = S := ⟨_, rfl⟩
  rw [hS] at KC hF0
  have hSq : ((S : Int) != 0) = false := by simp only [bne_eq_false_iff_eq]; omega
  have hl' := Lib.hid hl
  have hNx' := Lib.hid hNx
  have hS0 := Lib.hid hF0
  clear hl hx0 hb8 hNx hN hbA c0 hx hxA hF0 hK hS
  obtain rfl : n = N := by omega
  obtain rfl : n = c := by omega
  clear hcN
  go_enter Tryz.func87, Tryz.ntmps87
  go_wp2_with fail
  refine wp_scope_fwd 0 rfl ?_
  go_wp2_with fail
  (with_reducible refine (KI1.out _).mono ?_)
  rintro e w' ⟨rfl, rfl⟩
  go_wp2_with fail
  (with_reducible refine (KI2.out _).mono ?_)
  rintro e w' ⟨rfl, rfl⟩
  go_wp2_with fail
  generalize w.alloc (.cells #[.int .i64 0, .int .i64 0, .int .i64 0, .int .i64 0, .int .i64 0, .int .i64 0, .slice none 0 0] 36) = w2 at HB hbz hsA HXA cA KC ⊢
  (with_reducible refine KC.out.mono ?_)
  rintro e w3 ⟨rfl, hb23⟩
  clear KC
  have HB3 := Lib.hid (HB.out.trans (hb23.mono HB.out.size))
  have HX3 := Lib.hid (HXA.out.next hb23)
  have HZ3 := Lib.hid (hbz.out.below hb23 hsA)
  have hs3 : w.heap.size < w3.heap.size := Nat.lt_of_lt_of_le hsA hb23.size
  clear hb23 hbz HXA HB cA
  obtain ⟨b9', o9, x9, ad9, hb9', hx9, c9⟩ := HX3.out.get (k := 13) (by rw [hl'.out]; omega)
  obtain ⟨rfl, rfl⟩ := RB.same_at rfl ad9
  have hx9' := Lib.hid hx9
  clear hx9 ad9
  have i13 : (13 : Int) < (n : Int) := by omega
  have s1 : (2 : Int) ≤ (n : Int) := by omega
  have s2 : (4 : Int) ≤ (n : Int) := by omega
  have s3 : (8 : Int) ≤ (n : Int) := by omega
  have s4 : (12 : Int) ≤ (n : Int) := by omega
  have s5 : (16 : Int) ≤ (n : Int) := by omega
  have u1 : ¬ n = 2 := by omega
  have u2 : ¬ n = 4 := by omega
  have u3 : ¬ n = 8 := by omega
  have u4 : ¬ n = 14 := by omega
  have wr9 := wrap_byte x9
  have a9 := and63 x9
  have a9' : ((x9.toNat % 64 : Nat) : Int) = (x9.toNat : Int) % 64 := by omega
  have w9' : IntKind.i64.wrap ((x9.toNat % 64 : Nat) : Int) = ((x9.toNat % 64 : Nat) : Int) := IntWalk.i64_in _ (by omega)
  obtain ⟨r9, hr9⟩ : ∃ r9, r9 = x9.toNat % 64 := ⟨_, rfl⟩
  rw [← hr9] at a9 a9' w9'
  have hr9' := Lib.hid hr9
  clear hr9 a9'
  have HG0 : Hid (Calls Tryz.prog 117 #[.slice (some ⟨b9', o9, none⟩) 2 n] w3.drew fun e w' => e = .returned (.int .i64 ((num2 xs 0 2 : Nat) : Int)) ∧ w3.drew = w') := Lib.hid (getAt xs n hl'.out b9' o9 n w3.drew HX3.out 0 2 (by omega) (by omega) (by omega) _ rfl)
  have HG1 := Lib.hid (getAt xs n hl'.out b9' o9 (n - 2) w3.drew HX3.out 2 2 (by omega) (by omega) (by omega) _ rfl)
  have HG2 := Lib.hid (getAt xs n hl'.out b9' o9 (n - 4) w3.drew HX3.out 4 4 (by omega) (by omega) (by omega) _ rfl)
  have HG3 := Lib.hid (getAt xs n hl'.out b9' o9 (n - 8) w3.drew HX3.out 8 4 (by omega) (by omega) (by omega) _ rfl)
  have HG4 := Lib.hid (getAt xs n hl'.out b9' o9 (n - 14) w3.drew HX3.out 14 2 (by omega) (by omega) (by omega) _ rfl)
  have KL := Lib.hid (clone [] 0 rfl (some ⟨b9', o9, none⟩) 0 w3.drew RB.nil (by omega))
  have hne : b9' ≠ w.heap.size := by omega
  have hne' : w.heap.size ≠ b9' := by omega
  go_wp2_with fail
  go_region_held3 (fun w' => w'.cell? ⟨b9', o9 + 13, none⟩ = some (.int .u8 (x9.toNat : Int))) (go_keep)
    (first
      | (go_at_call 117; (with_reducible refine HG0.out.mono ?_); rintro e w' ⟨rfl, rfl⟩)
      | (go_at_call 117; (with_reducible refine HG1.out.mono ?_); rintro e w' ⟨rfl, rfl⟩)
      | (go_at_call 117; (with_reducible refine HG2.out.mono ?_); rintro e w' ⟨rfl, rfl⟩)
      | (go_at_call 117; (with_reducible refine HG3.out.mono ?_); rintro e w' ⟨rfl, rfl⟩)
      | (go_at_call 117; (with_reducible refine HG4.out.mono ?_); rintro e w' ⟨rfl, rfl⟩)
      | (go_at_call 80; (with_reducible refine KL.out.mono ?_); rintro e w4 ⟨A3, c3, rfl, hown3, hb3⟩; obtain ⟨⟨z0, z1, z2, z3, z4, z5, z6⟩, hz⟩ := SgF.below (w := w3.drew) HZ3.out hb3 hs3; have e9 := (cellB hb3 (o := o9 + 13) hb9').trans (show w3.drew.cell? ⟨b9', o9 + 13, none⟩ = _ from c9); have y0 := hz 0; have y1 := hz 1; have y2 := hz 2; have y3 := hz 3; have y4 := hz 4; have y5 := hz 5; have y6 := hz 6; clear hz))
  have hown3' : w4.ownsRow w3.heap.size 5 1 (.slice A3 0 c3) 0 (([] : List UInt8).map bv) := hown3
  obtain ⟨hp4, _, _, _, hb4⟩ := setSg_fin (SgAt.of z0 z1 z2 z3 z4 z5 z6) (.int .i64 ((num2 xs 0 2 : Nat) : Int)) (.int .i64 ((num2 xs 2 2 : Nat) : Int)) (.int .i64 ((num2 xs 4 4 : Nat) : Int)) (.int .i64 ((num2 xs 8 4 : Nat) : Int)) (.int .i64 (r9 : Int)) (.int .i64 ((num2 xs 14 2 : Nat) : Int)) hown3' (own_ne hown3' (Or.inl hs3)) (HB3.out.drew.trans (hb3.mono HB3.out.size)) (Nat.le_refl _) (Nat.lt_of_lt_of_le hs3 hb3.size)
  have hown4 := hown3'.kept (setSg_grown w4 w.heap.size (.int .i64 ((num2 xs 0 2 : Nat) : Int)) (.int .i64 ((num2 xs 2 2 : Nat) : Int)) (.int .i64 ((num2 xs 4 4 : Nat) : Int)) (.int .i64 ((num2 xs 8 4 : Nat) : Int)) (.int .i64 (r9 : Int)) (.int .i64 ((num2 xs 14 2 : Nat) : Int)) (.slice A3 0 c3)) (Or.inr (Ne.symm (own_ne hown3' (Or.inl hs3))))
  clear z0 z1 z2 z3 z4 z5 z6 y0 y1 y2 y3 y4 y5 y6 e9 hown3 hown3' hb3 HG0 HG1 HG2 HG3 HG4 KL
  show Exit.then _ _ _ _ (setSg w4 w.heap.size (.int .i64 ((num2 xs 0 2 : Nat) : Int)) (.int .i64 ((num2 xs 2 2 : Nat) : Int)) (.int .i64 ((num2 xs 4 4 : Nat) : Int)) (.int .i64 ((num2 xs 8 4 : Nat) : Int)) (.int .i64 (r9 : Int)) (.int .i64 ((num2 xs 14 2 : Nat) : Int)) (.slice A3 0 c3))
  generalize setSg w4 w.heap.size (.int .i64 ((num2 xs 0 2 : Nat) : Int)) (.int .i64 ((num2 xs 2 2 : Nat) : Int)) (.int .i64 ((num2 xs 4 4 : Nat) : Int)) (.int .i64 ((num2 xs 8 4 : Nat) : Int)) (.int .i64 (r9 : Int)) (.int .i64 ((num2 xs 14 2 : Nat) : Int)) (.slice A3 0 c3) = w5 at hp4 hown4 hb4 ⊢
  obtain ⟨z0, z1, z2, z3, z4, z5, z6⟩ := hp4
  go_wp2
  simp only [Exit.jump]
  refine bodyPost_ret (v := .tuple #[.agg #[.int .i64 ((num2 xs 0 2 : Nat) : Int), .int .i64 ((num2 xs 2 2 : Nat) : Int), .int .i64 ((num2 xs 4 4 : Nat) : Int), .int .i64 ((num2 xs 8 4 : Nat) : Int), .int .i64 (r9 : Int), .int .i64 ((num2 xs 14 2 : Nat) : Int), .slice A3 0 c3], .int .i64 0]) (by simp [results, Tryz.results87, go_sem, z0, z1, z2, z3, z4, z5, z6]) rfl ?_
  have hlen : (xs.drop n).length = 0 := by rw [List.length_drop, hl'.out]; omega
  have hP : sgParsed xs = ⟨(num2 xs 0 2 : Nat), (num2 xs 2 2 : Nat), (num2 xs 4 4 : Nat), (num2 xs 8 4 : Nat), (r9 : Int), (num2 xs 14 2 : Nat), xs.drop n⟩ := by
    unfold sgParsed
    rw [hNx'.out, b8_of hx9'.out, hr9'.out]
  rw [hP]
  refine ⟨A3, c3, ?_, ?_, hb4⟩
  · simp only [hlen]
  · simp only [hlen]
    rw [List.eq_nil_of_length_eq_zero hlen]
    exact own_base hown4 (Nat.le_of_lt hs3)

theorem segParse (src dst : Int) (xs : List UInt8) (n : Nat) (hl : xs.length = n) (A : Option Addr) (c : Nat) (hnc : n ≤ c) (w : World) (hx : RB w w.heap.size A xs) (hn : n ≤ 140737488351232) :
    Calls Tryz.prog 87 #[.int .i64 src, .int .i64 dst, .slice A n c] w (SegParsed w (segOut src dst xs)) := by
  unfold segOut
  rw [hl]
  split
  · rename_i h
    refine segParse_no src dst n c A _ _ rfl rfl ?_ w
    rcases h with h | h <;> rw [h] <;> simp
  · rename_i h
    have h1 : wordB src = true := by cases hh : wordB src; exact absurd (Or.inl hh) h; rfl
    have h2 : wordB dst = true := by cases hh : wordB dst; exact absurd (Or.inr hh) h; rfl
    obtain ⟨h3, h4⟩ := inR_iff.1 h1
    obtain ⟨h5, h6⟩ := inR_iff.1 h2
    obtain ⟨src, rfl⟩ := Int.eq_ofNat_of_zero_le h3
    obtain ⟨dst, rfl⟩ := Int.eq_ofNat_of_zero_le h5
    clear h
    split
    · rename_i h; exact segParse_len src dst (by omega) (by omega) xs n hl A c w hx hn 7 (Or.inl ⟨h, rfl⟩)
    · rename_i h20
      split
      · rename_i h; exact segParse_len src dst (by omega) (by omega) xs n hl A c w hx hn 1 (Or.inr (Or.inl ⟨by omega, h, rfl⟩))
      · rename_i hN
        split
        · rename_i h; exact segParse_len src dst (by omega) (by omega) xs n hl A c w hx hn 7 (Or.inr (Or.inr (Or.inl ⟨by omega, by omega, h, rfl⟩)))
        · rename_i hnN
          split
          · rename_i h; exact segParse_len src dst (by omega) (by omega) xs n hl A c w hx hn 2 (Or.inr (Or.inr (Or.inr ⟨by omega, by omega, by omega, h, rfl⟩)))
          · split
            · rename_i h; exact segParse_sum src dst (by omega) (by omega) xs n hl A c hnc w hx (by omega) (by omega) (by omega) (by omega) h
            · rename_i h
              by_cases hc : c = sgN xs
              · exact segParse_ok0 src dst (by omega) (by omega) xs n hl A c hnc w hx (by omega) (by omega) (by omega) (by omega) (Decidable.not_not.1 h) hc
              · exact segParse_ok src dst (by omega) (by omega) xs n hl A c hnc w hx (by omega) (by omega) (by omega) (by omega) (Decidable.not_not.1 h) hc

end Go.Proofs.YtlacidnnankjlaaGreatDoor
