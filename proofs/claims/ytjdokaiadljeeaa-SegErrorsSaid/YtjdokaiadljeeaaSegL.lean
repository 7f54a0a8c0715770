/-
  What the laws of chapter 13 share: a row of the argument, boxed; wakes.
-/
import Derived.Test.YtjdokaiadljeeaaSegRP
import Derived.Test.YtjdokaiadljeeaaSegAsk
import Derived.Test.YtjdokaiadljeeaaSpoilW
namespace Go.Proofs.Ytjdokaiadljeeaa
open Go.RowKit

/-- the 10 cells of a struct. -/
def SaAt (w : World) (g : Nat) (v0 v1 v2 v3 v4 v5 v6 v7 v8 v9 : Value) : Prop :=
  w.cell? ⟨g, 0, none⟩ = some v0 ∧ w.cell? ⟨g, 1, none⟩ = some v1 ∧ w.cell? ⟨g, 2, none⟩ = some v2 ∧ w.cell? ⟨g, 3, none⟩ = some v3 ∧ w.cell? ⟨g, 4, none⟩ = some v4 ∧ w.cell? ⟨g, 5, none⟩ = some v5 ∧ w.cell? ⟨g, 6, none⟩ = some v6 ∧ w.cell? ⟨g, 7, none⟩ = some v7 ∧ w.cell? ⟨g, 8, none⟩ = some v8 ∧ w.cell? ⟨g, 9, none⟩ = some v9
section
variable {w w' : World} {g : Nat} {v0 v1 v2 v3 v4 v5 v6 v7 v8 v9 : Value} {T : TypeId}
theorem SaAt.of (h0 : w.cell? ⟨g, 0, none⟩ = some v0) (h1 : w.cell? ⟨g, 1, none⟩ = some v1) (h2 : w.cell? ⟨g, 2, none⟩ = some v2) (h3 : w.cell? ⟨g, 3, none⟩ = some v3) (h4 : w.cell? ⟨g, 4, none⟩ = some v4) (h5 : w.cell? ⟨g, 5, none⟩ = some v5) (h6 : w.cell? ⟨g, 6, none⟩ = some v6) (h7 : w.cell? ⟨g, 7, none⟩ = some v7) (h8 : w.cell? ⟨g, 8, none⟩ = some v8) (h9 : w.cell? ⟨g, 9, none⟩ = some v9) : SaAt w g v0 v1 v2 v3 v4 v5 v6 v7 v8 v9 := ⟨h0, h1, h2, h3, h4, h5, h6, h7, h8, h9⟩
theorem SaAt.box (w : World) (v0 v1 v2 v3 v4 v5 v6 v7 v8 v9 : Value) (T : TypeId) : SaAt (w.alloc (.cells #[v0, v1, v2, v3, v4, v5, v6, v7, v8, v9] T)) w.heap.size v0 v1 v2 v3 v4 v5 v6 v7 v8 v9 := by
  refine SaAt.of ?_ ?_ ?_ ?_ ?_ ?_ ?_ ?_ ?_ ?_ <;> rw [World.cell?_alloc_at _ _ _ _ rfl] <;> rfl
theorem SaAt.below {B : Nat} (h : SaAt w g v0 v1 v2 v3 v4 v5 v6 v7 v8 v9) (hb : Below B w w') (hg : g < B) : SaAt w' g v0 v1 v2 v3 v4 v5 v6 v7 v8 v9 := by
  obtain ⟨h0, h1, h2, h3, h4, h5, h6, h7, h8, h9⟩ := h
  exact SaAt.of ((cellB hb hg).trans h0) ((cellB hb hg).trans h1) ((cellB hb hg).trans h2) ((cellB hb hg).trans h3) ((cellB hb hg).trans h4) ((cellB hb hg).trans h5) ((cellB hb hg).trans h6) ((cellB hb hg).trans h7) ((cellB hb hg).trans h8) ((cellB hb hg).trans h9)
/-- and they may be written. -/
def SaF (w : World) (g : Nat) (v0 v1 v2 v3 v4 v5 v6 v7 v8 v9 : Value) : Prop := SaAt w g v0 v1 v2 v3 v4 v5 v6 v7 v8 v9 ∧ ∀ k, w.frozen? ⟨g, k, none⟩ = false
theorem SaF.box (w : World) (v0 v1 v2 v3 v4 v5 v6 v7 v8 v9 : Value) (T : TypeId) : SaF (w.alloc (.cells #[v0, v1, v2, v3, v4, v5, v6, v7, v8, v9] T)) w.heap.size v0 v1 v2 v3 v4 v5 v6 v7 v8 v9 := ⟨SaAt.box w v0 v1 v2 v3 v4 v5 v6 v7 v8 v9 T, fun k => World.frozen?_alloc_at _ _ _ k rfl⟩
theorem SaF.below {B : Nat} (h : SaF w g v0 v1 v2 v3 v4 v5 v6 v7 v8 v9) (hb : Below B w w') (hg : g < B) : SaF w' g v0 v1 v2 v3 v4 v5 v6 v7 v8 v9 := ⟨h.1.below hb hg, fun k => (frozB hb hg).trans (h.2 k)⟩
theorem SaF.grown {row : Option Nat} (h : SaF w g v0 v1 v2 v3 v4 v5 v6 v7 v8 v9) (hg : w.grownBy w' row) (hlt : g < w.heap.size) (hne : some g ≠ row) : SaF w' g v0 v1 v2 v3 v4 v5 v6 v7 v8 v9 := by
  have hc : ∀ k, w'.cell? ⟨g, k, none⟩ = w.cell? ⟨g, k, none⟩ := fun k => World.cell?_of_block (a := ⟨g, k, none⟩) (hg.block g hlt hne)
  have hf : ∀ k, w'.frozen? ⟨g, k, none⟩ = w.frozen? ⟨g, k, none⟩ := fun k => World.frozen?_of_block (a := ⟨g, k, none⟩) (hg.block g hlt hne)
  obtain ⟨⟨h0, h1, h2, h3, h4, h5, h6, h7, h8, h9⟩, hz⟩ := h
  exact ⟨SaAt.of ((hc 0).trans h0) ((hc 1).trans h1) ((hc 2).trans h2) ((hc 3).trans h3) ((hc 4).trans h4) ((hc 5).trans h5) ((hc 6).trans h6) ((hc 7).trans h7) ((hc 8).trans h8) ((hc 9).trans h9), fun k => (hf k).trans (hz k)⟩
theorem SaF.nextBox (hb : Below (w.alloc (.cells #[v0, v1, v2, v3, v4, v5, v6, v7, v8, v9] T)).heap.size (w.alloc (.cells #[v0, v1, v2, v3, v4, v5, v6, v7, v8, v9] T)) w') : SaF w' w.heap.size v0 v1 v2 v3 v4 v5 v6 v7 v8 v9 := (SaF.box w v0 v1 v2 v3 v4 v5 v6 v7 v8 v9 T).below hb (lt_alloc _ _)
theorem SaF.nextBoxD (hb : Below (w.alloc (.cells #[v0, v1, v2, v3, v4, v5, v6, v7, v8, v9] T)).drew.heap.size (w.alloc (.cells #[v0, v1, v2, v3, v4, v5, v6, v7, v8, v9] T)).drew w') : SaF w' w.heap.size v0 v1 v2 v3 v4 v5 v6 v7 v8 v9 := SaF.below (w := (w.alloc (.cells #[v0, v1, v2, v3, v4, v5, v6, v7, v8, v9] T)).drew) (SaF.box w v0 v1 v2 v3 v4 v5 v6 v7 v8 v9 T) hb (lt_alloc_drew _ _)
theorem SaF.nextGrown {row : Option Nat} (hg : (w.alloc (.cells #[v0, v1, v2, v3, v4, v5, v6, v7, v8, v9] T)).grownBy w' row) (hne : some w.heap.size ≠ row) : SaF w' w.heap.size v0 v1 v2 v3 v4 v5 v6 v7 v8 v9 := (SaF.box w v0 v1 v2 v3 v4 v5 v6 v7 v8 v9 T).grown hg (lt_alloc _ _) hne
theorem SaF.fin {u : Value} {e : TypeId} {size n : Nat} {xs : List Value} (h : SaF w g v0 v1 v2 v3 v4 v5 v6 v7 v8 v9) (hb : Below w.heap.size w w') (hg : g < w.heap.size) (ho : w'.ownsRow w.heap.size e size u n xs) : SaF w' g v0 v1 v2 v3 v4 v5 v6 v7 v8 v9 ∧ some g ≠ u.ownBlock ∧ g < w'.heap.size :=
  ⟨h.below hb hg, own_ne ho (Or.inl hg), Nat.lt_of_lt_of_le hg hb.size⟩
theorem SaF.finBox {u : Value} {e : TypeId} {size n : Nat} {xs : List Value} (hb : Below (w.alloc (.cells #[v0, v1, v2, v3, v4, v5, v6, v7, v8, v9] T)).heap.size (w.alloc (.cells #[v0, v1, v2, v3, v4, v5, v6, v7, v8, v9] T)) w') (ho : w'.ownsRow (w.alloc (.cells #[v0, v1, v2, v3, v4, v5, v6, v7, v8, v9] T)).heap.size e size u n xs) : SaF w' w.heap.size v0 v1 v2 v3 v4 v5 v6 v7 v8 v9 ∧ some w.heap.size ≠ u.ownBlock ∧ w.heap.size < w'.heap.size :=
  SaF.fin (SaF.box w v0 v1 v2 v3 v4 v5 v6 v7 v8 v9 T) hb (lt_alloc _ _) ho
theorem SaF.finBoxD {u : Value} {e : TypeId} {size n : Nat} {xs : List Value} (hb : Below (w.alloc (.cells #[v0, v1, v2, v3, v4, v5, v6, v7, v8, v9] T)).drew.heap.size (w.alloc (.cells #[v0, v1, v2, v3, v4, v5, v6, v7, v8, v9] T)).drew w') (ho : w'.ownsRow (w.alloc (.cells #[v0, v1, v2, v3, v4, v5, v6, v7, v8, v9] T)).drew.heap.size e size u n xs) : SaF w' w.heap.size v0 v1 v2 v3 v4 v5 v6 v7 v8 v9 ∧ some w.heap.size ≠ u.ownBlock ∧ w.heap.size < w'.heap.size :=
  SaF.fin (w := (w.alloc (.cells #[v0, v1, v2, v3, v4, v5, v6, v7, v8, v9] T)).drew) (SaF.box w v0 v1 v2 v3 v4 v5 v6 v7 v8 v9 T) hb (lt_alloc_drew _ _) ho
end
/-- the cells, stored. -/
abbrev setSa (w : World) (g : Nat) (v0 v1 v2 v3 v4 v5 v6 v7 v8 v9 : Value) : World :=
  (((((((((w.setCell ⟨g, 0, none⟩ v0).setCell ⟨g, 1, none⟩ v1).setCell ⟨g, 2, none⟩ v2).setCell ⟨g, 3, none⟩ v3).setCell ⟨g, 4, none⟩ v4).setCell ⟨g, 5, none⟩ v5).setCell ⟨g, 6, none⟩ v6).setCell ⟨g, 7, none⟩ v7).setCell ⟨g, 8, none⟩ v8).setCell ⟨g, 9, none⟩ v9
theorem setSa_grown (w : World) (g : Nat) (v0 v1 v2 v3 v4 v5 v6 v7 v8 v9 : Value) : w.grownBy (setSa w g v0 v1 v2 v3 v4 v5 v6 v7 v8 v9) (some g) := ((((((((((grown_setCell w g 0 v0).trans (grown_setCell _ g 1 v1)).trans (grown_setCell _ g 2 v2)).trans (grown_setCell _ g 3 v3)).trans (grown_setCell _ g 4 v4)).trans (grown_setCell _ g 5 v5)).trans (grown_setCell _ g 6 v6)).trans (grown_setCell _ g 7 v7)).trans (grown_setCell _ g 8 v8)).trans (grown_setCell _ g 9 v9))
theorem setSa_only (w : World) (g : Nat) (v0 v1 v2 v3 v4 v5 v6 v7 v8 v9 : Value) : Only g w (setSa w g v0 v1 v2 v3 v4 v5 v6 v7 v8 v9) := (((((((((((Only.refl g w).set 0 v0).set 1 v1).set 2 v2).set 3 v3).set 4 v4).set 5 v5).set 6 v6).set 7 v7).set 8 v8).set 9 v9)
theorem setSa_at {w : World} {g : Nat} {u0 u1 u2 u3 u4 u5 u6 u7 u8 u9 : Value} (h : SaAt w g u0 u1 u2 u3 u4 u5 u6 u7 u8 u9) (v0 v1 v2 v3 v4 v5 v6 v7 v8 v9 : Value) : SaAt (setSa w g v0 v1 v2 v3 v4 v5 v6 v7 v8 v9) g v0 v1 v2 v3 v4 v5 v6 v7 v8 v9 := by
  obtain ⟨h0, h1, h2, h3, h4, h5, h6, h7, h8, h9⟩ := h
  have k : ∀ (w : World) (j j' : Nat) (u x : Value), j' ≠ j → w.cell? ⟨g, j, none⟩ = some x → (w.setCell ⟨g, j', none⟩ u).cell? ⟨g, j, none⟩ = some x := fun w j j' u x hj hc =>
    (World.cell?_setCell_other w ⟨g, j', none⟩ ⟨g, j, none⟩ u (by simp)).trans hc
  have m : ∀ (w : World) (j : Nat) (u x : Value), w.cell? ⟨g, j, none⟩ = some x → (w.setCell ⟨g, j, none⟩ u).cell? ⟨g, j, none⟩ = some u := fun w j u x hc => World.cell?_setCell_same _ _ _ hc
  refine SaAt.of ?_ ?_ ?_ ?_ ?_ ?_ ?_ ?_ ?_ ?_
  · exact k _ 0 9 _ _ (by decide) (k _ 0 8 _ _ (by decide) (k _ 0 7 _ _ (by decide) (k _ 0 6 _ _ (by decide) (k _ 0 5 _ _ (by decide) (k _ 0 4 _ _ (by decide) (k _ 0 3 _ _ (by decide) (k _ 0 2 _ _ (by decide) (k _ 0 1 _ _ (by decide) (m _ 0 _ _ h0)))))))))
  · exact k _ 1 9 _ _ (by decide) (k _ 1 8 _ _ (by decide) (k _ 1 7 _ _ (by decide) (k _ 1 6 _ _ (by decide) (k _ 1 5 _ _ (by decide) (k _ 1 4 _ _ (by decide) (k _ 1 3 _ _ (by decide) (k _ 1 2 _ _ (by decide) (m _ 1 _ _ (k _ 1 0 _ _ (by decide) h1)))))))))
  · exact k _ 2 9 _ _ (by decide) (k _ 2 8 _ _ (by decide) (k _ 2 7 _ _ (by decide) (k _ 2 6 _ _ (by decide) (k _ 2 5 _ _ (by decide) (k _ 2 4 _ _ (by decide) (k _ 2 3 _ _ (by decide) (m _ 2 _ _ (k _ 2 1 _ _ (by decide) (k _ 2 0 _ _ (by decide) h2)))))))))
  · exact k _ 3 9 _ _ (by decide) (k _ 3 8 _ _ (by decide) (k _ 3 7 _ _ (by decide) (k _ 3 6 _ _ (by decide) (k _ 3 5 _ _ (by decide) (k _ 3 4 _ _ (by decide) (m _ 3 _ _ (k _ 3 2 _ _ (by decide) (k _ 3 1 _ _ (by decide) (k _ 3 0 _ _ (by decide) h3)))))))))
  · exact k _ 4 9 _ _ (by decide) (k _ 4 8 _ _ (by decide) (k _ 4 7 _ _ (by decide) (k _ 4 6 _ _ (by decide) (k _ 4 5 _ _ (by decide) (m _ 4 _ _ (k _ 4 3 _ _ (by decide) (k _ 4 2 _ _ (by decide) (k _ 4 1 _ _ (by decide) (k _ 4 0 _ _ (by decide) h4)))))))))
  · exact k _ 5 9 _ _ (by decide) (k _ 5 8 _ _ (by decide) (k _ 5 7 _ _ (by decide) (k _ 5 6 _ _ (by decide) (m _ 5 _ _ (k _ 5 4 _ _ (by decide) (k _ 5 3 _ _ (by decide) (k _ 5 2 _ _ (by decide) (k _ 5 1 _ _ (by decide) (k _ 5 0 _ _ (by decide) h5)))))))))
  · exact k _ 6 9 _ _ (by decide) (k _ 6 8 _ _ (by decide) (k _ 6 7 _ _ (by decide) (m _ 6 _ _ (k _ 6 5 _ _ (by decide) (k _ 6 4 _ _ (by decide) (k _ 6 3 _ _ (by decide) (k _ 6 2 _ _ (by decide) (k _ 6 1 _ _ (by decide) (k _ 6 0 _ _ (by decide) h6)))))))))
  · exact k _ 7 9 _ _ (by decide) (k _ 7 8 _ _ (by decide) (m _ 7 _ _ (k _ 7 6 _ _ (by decide) (k _ 7 5 _ _ (by decide) (k _ 7 4 _ _ (by decide) (k _ 7 3 _ _ (by decide) (k _ 7 2 _ _ (by decide) (k _ 7 1 _ _ (by decide) (k _ 7 0 _ _ (by decide) h7)))))))))
  · exact k _ 8 9 _ _ (by decide) (m _ 8 _ _ (k _ 8 7 _ _ (by decide) (k _ 8 6 _ _ (by decide) (k _ 8 5 _ _ (by decide) (k _ 8 4 _ _ (by decide) (k _ 8 3 _ _ (by decide) (k _ 8 2 _ _ (by decide) (k _ 8 1 _ _ (by decide) (k _ 8 0 _ _ (by decide) h8)))))))))
  · exact m _ 9 _ _ (k _ 9 8 _ _ (by decide) (k _ 9 7 _ _ (by decide) (k _ 9 6 _ _ (by decide) (k _ 9 5 _ _ (by decide) (k _ 9 4 _ _ (by decide) (k _ 9 3 _ _ (by decide) (k _ 9 2 _ _ (by decide) (k _ 9 1 _ _ (by decide) (k _ 9 0 _ _ (by decide) h9)))))))))
/-- a struct whose last cell is a slice of the call's own, stored into a box: what is good for what follows. -/
theorem setSa_fin {w : World} {g B : Nat} {u0 u1 u2 u3 u4 u5 u6 u7 u8 u9 : Value} (h : SaAt w g u0 u1 u2 u3 u4 u5 u6 u7 u8 u9) (v0 v1 v2 v3 v4 v5 v6 v7 v8 : Value) {A : Option Addr} {m c : Nat} {xs : List UInt8} {base : Nat} {e : TypeId}
    (ho : w.ownsRow base e 1 (.slice A m c) m (xs.map bv)) (hne : some g ≠ (Value.slice A m c).ownBlock) {W0 : World} (hb : Below B W0 w) (hg : B ≤ g) (hlt : g < w.heap.size) :
    SaAt (setSa w g v0 v1 v2 v3 v4 v5 v6 v7 v8 (.slice A m c)) g v0 v1 v2 v3 v4 v5 v6 v7 v8 (.slice A m c) ∧ B ≤ g ∧ g < (setSa w g v0 v1 v2 v3 v4 v5 v6 v7 v8 (.slice A m c)).heap.size ∧ RB (setSa w g v0 v1 v2 v3 v4 v5 v6 v7 v8 (.slice A m c)) (setSa w g v0 v1 v2 v3 v4 v5 v6 v7 v8 (.slice A m c)).heap.size A xs ∧ Below B W0 (setSa w g v0 v1 v2 v3 v4 v5 v6 v7 v8 (.slice A m c)) := by
  refine ⟨setSa_at h v0 v1 v2 v3 v4 v5 v6 v7 v8 _, hg, ?_, ?_, (setSa_only w g v0 v1 v2 v3 v4 v5 v6 v7 v8 _).below _ _ hb hg⟩
  · rw [(setSa_only w g v0 v1 v2 v3 v4 v5 v6 v7 v8 _).size]; exact hlt
  · exact RB.of_ownN (ho.kept (setSa_grown w g v0 v1 v2 v3 v4 v5 v6 v7 v8 _) (Or.inr (Ne.symm hne)))
theorem Sabox_fin {w : World} {B : Nat} (v0 v1 v2 v3 v4 v5 v6 v7 v8 : Value) {A : Option Addr} {m c : Nat} {xs : List UInt8} {base : Nat} {e : TypeId} (T : TypeId) (ho : w.ownsRow base e 1 (.slice A m c) m (xs.map bv)) {W0 : World} (hb : Below B W0 w) (hg : B ≤ w.heap.size) :
    SaAt (w.alloc (.cells #[v0, v1, v2, v3, v4, v5, v6, v7, v8, .slice A m c] T)) w.heap.size v0 v1 v2 v3 v4 v5 v6 v7 v8 (.slice A m c) ∧ B ≤ w.heap.size ∧ w.heap.size < (w.alloc (.cells #[v0, v1, v2, v3, v4, v5, v6, v7, v8, .slice A m c] T)).heap.size ∧
      RB (w.alloc (.cells #[v0, v1, v2, v3, v4, v5, v6, v7, v8, .slice A m c] T)) (w.alloc (.cells #[v0, v1, v2, v3, v4, v5, v6, v7, v8, .slice A m c] T)).heap.size A xs ∧ Below B W0 (w.alloc (.cells #[v0, v1, v2, v3, v4, v5, v6, v7, v8, .slice A m c] T)) :=
  ⟨SaAt.box w v0 v1 v2 v3 v4 v5 v6 v7 v8 _ T, hg, lt_alloc _ _, (RB.of_ownN ho).next (balloc _ _), hb.alloc hg _⟩

theorem SegAsk.row {W : World} {A : Option Addr} {len : Nat} (h : SegAsk W A len) (i : Nat) (hi : i < len) {w : World} (hb : Below W.heap.size W w) :
    ∃ (b o : Nat) (n0 n1 n2 n3 n4 n5 : Int) (xs6 : List UInt8) (B6 : Option Addr) (p6 : Nat) (n7 n8 : Int) (xs9 : List UInt8) (B9 : Option Addr) (p9 : Nat), A = some ⟨b, o, none⟩ ∧ b < w.heap.size ∧
      w.cell? ⟨b, o + i * 10, none⟩ = some (.int .i64 n0) ∧ w.cell? ⟨b, o + i * 10 + 1, none⟩ = some (.int .i64 n1) ∧ w.cell? ⟨b, o + i * 10 + 2, none⟩ = some (.int .i64 n2) ∧ w.cell? ⟨b, o + i * 10 + 3, none⟩ = some (.int .i64 n3) ∧ w.cell? ⟨b, o + i * 10 + 4, none⟩ = some (.int .i64 n4) ∧ w.cell? ⟨b, o + i * 10 + 5, none⟩ = some (.int .i64 n5) ∧
      w.cell? ⟨b, o + i * 10 + 6, none⟩ = some (.slice B6 xs6.length p6) ∧ w.cell? ⟨b, o + i * 10 + 7, none⟩ = some (.int .i64 n7) ∧ w.cell? ⟨b, o + i * 10 + 8, none⟩ = some (.int .i64 n8) ∧ w.cell? ⟨b, o + i * 10 + 9, none⟩ = some (.slice B9 xs9.length p9) ∧
      RB w w.heap.size B6 xs6 ∧ RB w w.heap.size B9 xs9 ∧ xs6.length ≤ p6 ∧ p6 ≤ 140737488351232 ∧ xs9.length ≤ p9 ∧ p9 ≤ 140737488351232 := by
  obtain ⟨b, o, n0, n1, n2, n3, n4, n5, xs6, B6, p6, n7, n8, xs9, B9, p9, hA, hlt, c0, a0, z0, c1, a1, z1, c2, a2, z2, c3, a3, z3, c4, a4, z4, c5, a5, z5, c6, a6, z6, r6, c7, a7, z7, c8, a8, z8, c9, a9, z9, r9⟩ := (h.below hb) i hi
  exact ⟨b, o, n0, n1, n2, n3, n4, n5, xs6, B6, p6, n7, n8, xs9, B9, p9, hA, hlt, c0, c1, c2, c3, c4, c5, c6, c7, c8, c9, r6, r9, a6, z6, a9, z9⟩

theorem segParseQ (src dst : Int) (xs : List UInt8) (n : Nat) (hl : xs.length = n) (A : Option Addr) (c : Nat) (hnc : n ≤ c) (w : World) (hx : RB w w.heap.size A xs) (hn : n ≤ 140737488351232)
    (sp dp sq ak fl wn er : Int) (ys : List UInt8) (hq : segOut src dst xs = (⟨sp, dp, sq, ak, fl, wn, ys⟩, er)) :
    Calls Try.prog 55 #[.int .i64 src, .int .i64 dst, .slice A n c] w fun e w' => ∃ A' c', e = .returned (.tuple #[.agg #[.int .i64 sp, .int .i64 dp, .int .i64 sq, .int .i64 ak, .int .i64 fl, .int .i64 wn, .slice A' ys.length c'], .int .i64 er]) ∧ w'.ownsRow w.heap.size 5 1 (.slice A' ys.length c') ys.length (ys.map bv) ∧ Below w.heap.size w w' := by
  have := segParse src dst xs n hl A c hnc w hx hn
  rw [hq] at this
  exact this
theorem refParseSegQ (src dst : Int) (xs : List UInt8) (n : Nat) (hl : xs.length = n) (A : Option Addr) (c : Nat) (hnc : n ≤ c) (w : World) (hx : RB w w.heap.size A xs) (hn : n ≤ 140737488351232)
    (sp dp sq ak fl wn er : Int) (ys : List UInt8) (hq : segOut src dst xs = (⟨sp, dp, sq, ak, fl, wn, ys⟩, er)) :
    Calls Try.prog 56 #[.int .i64 src, .int .i64 dst, .slice A n c] w fun e w' => ∃ A' c', e = .returned (.tuple #[.agg #[.int .i64 sp, .int .i64 dp, .int .i64 sq, .int .i64 ak, .int .i64 fl, .int .i64 wn, .slice A' ys.length c'], .int .i64 er]) ∧ w'.ownsRow w.heap.size 5 1 (.slice A' ys.length c') ys.length (ys.map bv) ∧ Below w.heap.size w w' := by
  have := refParseSeg src dst xs n hl A c hnc w hx hn
  rw [hq] at this
  exact this
theorem i64_xor_bit (a r : Nat) (ha : a < 4294967296) (hr : r < 32) : bits .xor .i64 (a : Int) (IntKind.i64.wrap ((2 : Int) ^ r)) = ((a ^^^ 2 ^ r : Nat) : Int) := by
  have h2' : 2 ^ r < 2 ^ 32 := Nat.pow_lt_pow_right (by omega) hr
  have h2 : 2 ^ r < 4294967296 := by omega
  have h1 : a ^^^ 2 ^ r < 2 ^ 32 := Nat.xor_lt_two_pow (by omega) (by omega)
  have h4 : ((2 : Int) ^ r) = ((2 ^ r : Nat) : Int) := by simp
  rw [h4]
  generalize 2 ^ r = q at *
  rw [IntWalk.i64_in _ (by omega)]
  show IntKind.i64.wrap ((BitVec.ofInt 64 (a : Int) ^^^ BitVec.ofInt 64 ((q : Nat) : Int)).toNat : Int) = _
  rw [BitVec.toNat_xor, ofInt_i64 a (by omega), ofInt_i64 q (by omega), IntKind.wrap_i64]
  omega
theorem wakes13_bytes : segOut 1 2 (sgBytes 1 2 0 0 5 0 2 0 []) = (⟨0, 0, 5, 0, 2, 0, []⟩, 0) :=
  seg_same 1 2 (by omega) (by omega) ⟨0, 0, 5, 0, 2, 0, []⟩ (by decide)

set_option maxRecDepth 100000 in
set_option maxHeartbeats 1600000 in
theorem wakes13 (w : World) : Calls Try.prog 54 #[] w fun e w' => e = .returned (.bool true) ∧ Below w.heap.size w w' := by
  have K : Calls Try.prog 48 #[.int .i64 1, .int .i64 2, .agg #[.int .i64 0, .int .i64 0, .int .i64 5, .int .i64 0, .int .i64 2, .int .i64 0, .slice none 0 0]] w fun e w' => ∃ A' c', e = .returned (.tuple #[.slice A' 20 c', .int .i64 0]) ∧ w'.ownsRow w.heap.size 5 1 (.slice A' 20 c') 20 ((sgBytes 1 2 0 0 5 0 2 0 []).map bv) ∧ Below w.heap.size w w' :=
    segBytes 1 2 0 0 5 0 2 0 [] 0 rfl none 0 (by decide) (by omega) (by omega) w RB.nil
  have HK := Lib.hid K
  clear K
  go_enter Try.func54, Try.ntmps54
  go_wp2_with fail
  (with_reducible refine HK.out.mono ?_)
  rintro e w1 ⟨A1, p1, rfl, hown1, hb1⟩
  have hr := RB.of_ownN hown1
  have hp1 : 20 ≤ p1 := by
    obtain ⟨_, _, hA, h, _⟩ := own_shape hown1
    injection hA with _ _ h2
    omega
  have HP := Lib.hid (segParseQ 1 2 (sgBytes 1 2 0 0 5 0 2 0 []) 20 (sgBytes_length ..) A1 p1 hp1 w1 hr (by omega) 0 0 5 0 2 0 0 [] wakes13_bytes)
  have hb1' := Lib.hid hb1
  clear hown1 hr HK hb1
  go_wp2_with fail
  (with_reducible refine HP.out.mono ?_)
  rintro e w2 ⟨A2, p2, he, hown2, hb2⟩
  have he' : e = .returned (.tuple #[.agg #[.int .i64 0, .int .i64 0, .int .i64 5, .int .i64 0, .int .i64 2, .int .i64 0, .slice A2 0 p2], .int .i64 0]) := he
  subst he'
  have hbb : Below w.heap.size w w2 := hb1'.out.trans (hb2.mono hb1'.out.size)
  clear he hown2 hb2 HP
  go_wp2_with fail
  (with_reducible refine (num13 0 _).mono ?_)
  rintro e w' ⟨rfl, rfl⟩
  go_wp2_with fail
  (with_reducible refine (num13 0 _).mono ?_)
  rintro e w' ⟨rfl, rfl⟩
  go_wp2
  go_ret
  exact ⟨rfl, hbb.alloc hbb.size _⟩

end Go.Proofs.Ytjdokaiadljeeaa
