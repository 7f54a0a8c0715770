/-
  A segment as a block of seven cells; the walks of chapter 13's small functions.
-/
import Derived.Test.YtjdokaiadljeeaaIpL
import Derived.Test.YtjdokaiadljeeaaSegPlain
namespace Go.Proofs.Ytjdokaiadljeeaa
open Go.RowKit

/-- the 7 cells of a struct. -/
def SgAt (w : World) (g : Nat) (v0 v1 v2 v3 v4 v5 v6 : Value) : Prop :=
  w.cell? ⟨g, 0, none⟩ = some v0 ∧ w.cell? ⟨g, 1, none⟩ = some v1 ∧ w.cell? ⟨g, 2, none⟩ = some v2 ∧ w.cell? ⟨g, 3, none⟩ = some v3 ∧ w.cell? ⟨g, 4, none⟩ = some v4 ∧ w.cell? ⟨g, 5, none⟩ = some v5 ∧ w.cell? ⟨g, 6, none⟩ = some v6
section
variable {w w' : World} {g : Nat} {v0 v1 v2 v3 v4 v5 v6 : Value} {T : TypeId}
theorem SgAt.of (h0 : w.cell? ⟨g, 0, none⟩ = some v0) (h1 : w.cell? ⟨g, 1, none⟩ = some v1) (h2 : w.cell? ⟨g, 2, none⟩ = some v2) (h3 : w.cell? ⟨g, 3, none⟩ = some v3) (h4 : w.cell? ⟨g, 4, none⟩ = some v4) (h5 : w.cell? ⟨g, 5, none⟩ = some v5) (h6 : w.cell? ⟨g, 6, none⟩ = some v6) : SgAt w g v0 v1 v2 v3 v4 v5 v6 := ⟨h0, h1, h2, h3, h4, h5, h6⟩
theorem SgAt.box (w : World) (v0 v1 v2 v3 v4 v5 v6 : Value) (T : TypeId) : SgAt (w.alloc (.cells #[v0, v1, v2, v3, v4, v5, v6] T)) w.heap.size v0 v1 v2 v3 v4 v5 v6 := by
  refine SgAt.of ?_ ?_ ?_ ?_ ?_ ?_ ?_ <;> rw [World.cell?_alloc_at _ _ _ _ rfl] <;> rfl
theorem SgAt.below {B : Nat} (h : SgAt w g v0 v1 v2 v3 v4 v5 v6) (hb : Below B w w') (hg : g < B) : SgAt w' g v0 v1 v2 v3 v4 v5 v6 := by
  obtain ⟨h0, h1, h2, h3, h4, h5, h6⟩ := h
  exact SgAt.of ((cellB hb hg).trans h0) ((cellB hb hg).trans h1) ((cellB hb hg).trans h2) ((cellB hb hg).trans h3) ((cellB hb hg).trans h4) ((cellB hb hg).trans h5) ((cellB hb hg).trans h6)
/-- and they may be written. -/
def SgF (w : World) (g : Nat) (v0 v1 v2 v3 v4 v5 v6 : Value) : Prop := SgAt w g v0 v1 v2 v3 v4 v5 v6 ∧ ∀ k, w.frozen? ⟨g, k, none⟩ = false
theorem SgF.box (w : World) (v0 v1 v2 v3 v4 v5 v6 : Value) (T : TypeId) : SgF (w.alloc (.cells #[v0, v1, v2, v3, v4, v5, v6] T)) w.heap.size v0 v1 v2 v3 v4 v5 v6 := ⟨SgAt.box w v0 v1 v2 v3 v4 v5 v6 T, fun k => World.frozen?_alloc_at _ _ _ k rfl⟩
theorem SgF.below {B : Nat} (h : SgF w g v0 v1 v2 v3 v4 v5 v6) (hb : Below B w w') (hg : g < B) : SgF w' g v0 v1 v2 v3 v4 v5 v6 := ⟨h.1.below hb hg, fun k => (frozB hb hg).trans (h.2 k)⟩
theorem SgF.grown {row : Option Nat} (h : SgF w g v0 v1 v2 v3 v4 v5 v6) (hg : w.grownBy w' row) (hlt : g < w.heap.size) (hne : some g ≠ row) : SgF w' g v0 v1 v2 v3 v4 v5 v6 := by
  have hc : ∀ k, w'.cell? ⟨g, k, none⟩ = w.cell? ⟨g, k, none⟩ := fun k => World.cell?_of_block (a := ⟨g, k, none⟩) (hg.block g hlt hne)
  have hf : ∀ k, w'.frozen? ⟨g, k, none⟩ = w.frozen? ⟨g, k, none⟩ := fun k => World.frozen?_of_block (a := ⟨g, k, none⟩) (hg.block g hlt hne)
  obtain ⟨⟨h0, h1, h2, h3, h4, h5, h6⟩, hz⟩ := h
  exact ⟨SgAt.of ((hc 0).trans h0) ((hc 1).trans h1) ((hc 2).trans h2) ((hc 3).trans h3) ((hc 4).trans h4) ((hc 5).trans h5) ((hc 6).trans h6), fun k => (hf k).trans (hz k)⟩
theorem SgF.nextBox (hb : Below (w.alloc (.cells #[v0, v1, v2, v3, v4, v5, v6] T)).heap.size (w.alloc (.cells #[v0, v1, v2, v3, v4, v5, v6] T)) w') : SgF w' w.heap.size v0 v1 v2 v3 v4 v5 v6 := (SgF.box w v0 v1 v2 v3 v4 v5 v6 T).below hb (lt_alloc _ _)
theorem SgF.nextBoxD (hb : Below (w.alloc (.cells #[v0, v1, v2, v3, v4, v5, v6] T)).drew.heap.size (w.alloc (.cells #[v0, v1, v2, v3, v4, v5, v6] T)).drew w') : SgF w' w.heap.size v0 v1 v2 v3 v4 v5 v6 := SgF.below (w := (w.alloc (.cells #[v0, v1, v2, v3, v4, v5, v6] T)).drew) (SgF.box w v0 v1 v2 v3 v4 v5 v6 T) hb (lt_alloc_drew _ _)
theorem SgF.nextGrown {row : Option Nat} (hg : (w.alloc (.cells #[v0, v1, v2, v3, v4, v5, v6] T)).grownBy w' row) (hne : some w.heap.size ≠ row) : SgF w' w.heap.size v0 v1 v2 v3 v4 v5 v6 := (SgF.box w v0 v1 v2 v3 v4 v5 v6 T).grown hg (lt_alloc _ _) hne
theorem SgF.fin {u : Value} {e : TypeId} {size n : Nat} {xs : List Value} (h : SgF w g v0 v1 v2 v3 v4 v5 v6) (hb : Below w.heap.size w w') (hg : g < w.heap.size) (ho : w'.ownsRow w.heap.size e size u n xs) : SgF w' g v0 v1 v2 v3 v4 v5 v6 ∧ some g ≠ u.ownBlock ∧ g < w'.heap.size :=
  ⟨h.below hb hg, own_ne ho (Or.inl hg), Nat.lt_of_lt_of_le hg hb.size⟩
theorem SgF.finBox {u : Value} {e : TypeId} {size n : Nat} {xs : List Value} (hb : Below (w.alloc (.cells #[v0, v1, v2, v3, v4, v5, v6] T)).heap.size (w.alloc (.cells #[v0, v1, v2, v3, v4, v5, v6] T)) w') (ho : w'.ownsRow (w.alloc (.cells #[v0, v1, v2, v3, v4, v5, v6] T)).heap.size e size u n xs) : SgF w' w.heap.size v0 v1 v2 v3 v4 v5 v6 ∧ some w.heap.size ≠ u.ownBlock ∧ w.heap.size < w'.heap.size :=
  SgF.fin (SgF.box w v0 v1 v2 v3 v4 v5 v6 T) hb (lt_alloc _ _) ho
theorem SgF.finBoxD {u : Value} {e : TypeId} {size n : Nat} {xs : List Value} (hb : Below (w.alloc (.cells #[v0, v1, v2, v3, v4, v5, v6] T)).drew.heap.size (w.alloc (.cells #[v0, v1, v2, v3, v4, v5, v6] T)).drew w') (ho : w'.ownsRow (w.alloc (.cells #[v0, v1, v2, v3, v4, v5, v6] T)).drew.heap.size e size u n xs) : SgF w' w.heap.size v0 v1 v2 v3 v4 v5 v6 ∧ some w.heap.size ≠ u.ownBlock ∧ w.heap.size < w'.heap.size :=
  SgF.fin (w := (w.alloc (.cells #[v0, v1, v2, v3, v4, v5, v6] T)).drew) (SgF.box w v0 v1 v2 v3 v4 v5 v6 T) hb (lt_alloc_drew _ _) ho
end
/-- the cells, stored. -/
abbrev setSg (w : World) (g : Nat) (v0 v1 v2 v3 v4 v5 v6 : Value) : World :=
  ((((((w.setCell ⟨g, 0, none⟩ v0).setCell ⟨g, 1, none⟩ v1).setCell ⟨g, 2, none⟩ v2).setCell ⟨g, 3, none⟩ v3).setCell ⟨g, 4, none⟩ v4).setCell ⟨g, 5, none⟩ v5).setCell ⟨g, 6, none⟩ v6
theorem setSg_grown (w : World) (g : Nat) (v0 v1 v2 v3 v4 v5 v6 : Value) : w.grownBy (setSg w g v0 v1 v2 v3 v4 v5 v6) (some g) := (((((((grown_setCell w g 0 v0).trans (grown_setCell _ g 1 v1)).trans (grown_setCell _ g 2 v2)).trans (grown_setCell _ g 3 v3)).trans (grown_setCell _ g 4 v4)).trans (grown_setCell _ g 5 v5)).trans (grown_setCell _ g 6 v6))
theorem setSg_only (w : World) (g : Nat) (v0 v1 v2 v3 v4 v5 v6 : Value) : Only g w (setSg w g v0 v1 v2 v3 v4 v5 v6) := ((((((((Only.refl g w).set 0 v0).set 1 v1).set 2 v2).set 3 v3).set 4 v4).set 5 v5).set 6 v6)
theorem setSg_at {w : World} {g : Nat} {u0 u1 u2 u3 u4 u5 u6 : Value} (h : SgAt w g u0 u1 u2 u3 u4 u5 u6) (v0 v1 v2 v3 v4 v5 v6 : Value) : SgAt (setSg w g v0 v1 v2 v3 v4 v5 v6) g v0 v1 v2 v3 v4 v5 v6 := by
  obtain ⟨h0, h1, h2, h3, h4, h5, h6⟩ := h
  have k : ∀ (w : World) (j j' : Nat) (u x : Value), j' ≠ j → w.cell? ⟨g, j, none⟩ = some x → (w.setCell ⟨g, j', none⟩ u).cell? ⟨g, j, none⟩ = some x := fun w j j' u x hj hc =>
    (World.cell?_setCell_other w ⟨g, j', none⟩ ⟨g, j, none⟩ u (by simp)).trans hc
  have m : ∀ (w : World) (j : Nat) (u x : Value), w.cell? ⟨g, j, none⟩ = some x → (w.setCell ⟨g, j, none⟩ u).cell? ⟨g, j, none⟩ = some u := fun w j u x hc => World.cell?_setCell_same _ _ _ hc
  refine SgAt.of ?_ ?_ ?_ ?_ ?_ ?_ ?_
  · exact k _ 0 6 _ _ (by decide) (k _ 0 5 _ _ (by decide) (k _ 0 4 _ _ (by decide) (k _ 0 3 _ _ (by decide) (k _ 0 2 _ _ (by decide) (k _ 0 1 _ _ (by decide) (m _ 0 _ _ h0))))))
  · exact k _ 1 6 _ _ (by decide) (k _ 1 5 _ _ (by decide) (k _ 1 4 _ _ (by decide) (k _ 1 3 _ _ (by decide) (k _ 1 2 _ _ (by decide) (m _ 1 _ _ (k _ 1 0 _ _ (by decide) h1))))))
  · exact k _ 2 6 _ _ (by decide) (k _ 2 5 _ _ (by decide) (k _ 2 4 _ _ (by decide) (k _ 2 3 _ _ (by decide) (m _ 2 _ _ (k _ 2 1 _ _ (by decide) (k _ 2 0 _ _ (by decide) h2))))))
  · exact k _ 3 6 _ _ (by decide) (k _ 3 5 _ _ (by decide) (k _ 3 4 _ _ (by decide) (m _ 3 _ _ (k _ 3 2 _ _ (by decide) (k _ 3 1 _ _ (by decide) (k _ 3 0 _ _ (by decide) h3))))))
  · exact k _ 4 6 _ _ (by decide) (k _ 4 5 _ _ (by decide) (m _ 4 _ _ (k _ 4 3 _ _ (by decide) (k _ 4 2 _ _ (by decide) (k _ 4 1 _ _ (by decide) (k _ 4 0 _ _ (by decide) h4))))))
  · exact k _ 5 6 _ _ (by decide) (m _ 5 _ _ (k _ 5 4 _ _ (by decide) (k _ 5 3 _ _ (by decide) (k _ 5 2 _ _ (by decide) (k _ 5 1 _ _ (by decide) (k _ 5 0 _ _ (by decide) h5))))))
  · exact m _ 6 _ _ (k _ 6 5 _ _ (by decide) (k _ 6 4 _ _ (by decide) (k _ 6 3 _ _ (by decide) (k _ 6 2 _ _ (by decide) (k _ 6 1 _ _ (by decide) (k _ 6 0 _ _ (by decide) h6))))))
/-- a struct whose last cell is a slice of the call's own, stored into a box: what is good for what follows. -/
theorem setSg_fin {w : World} {g B : Nat} {u0 u1 u2 u3 u4 u5 u6 : Value} (h : SgAt w g u0 u1 u2 u3 u4 u5 u6) (v0 v1 v2 v3 v4 v5 : Value) {A : Option Addr} {m c : Nat} {xs : List UInt8} {base : Nat} {e : TypeId}
    (ho : w.ownsRow base e 1 (.slice A m c) m (xs.map bv)) (hne : some g ≠ (Value.slice A m c).ownBlock) {W0 : World} (hb : Below B W0 w) (hg : B ≤ g) (hlt : g < w.heap.size) :
    SgAt (setSg w g v0 v1 v2 v3 v4 v5 (.slice A m c)) g v0 v1 v2 v3 v4 v5 (.slice A m c) ∧ B ≤ g ∧ g < (setSg w g v0 v1 v2 v3 v4 v5 (.slice A m c)).heap.size ∧ RB (setSg w g v0 v1 v2 v3 v4 v5 (.slice A m c)) (setSg w g v0 v1 v2 v3 v4 v5 (.slice A m c)).heap.size A xs ∧ Below B W0 (setSg w g v0 v1 v2 v3 v4 v5 (.slice A m c)) := by
  refine ⟨setSg_at h v0 v1 v2 v3 v4 v5 _, hg, ?_, ?_, (setSg_only w g v0 v1 v2 v3 v4 v5 _).below _ _ hb hg⟩
  · rw [(setSg_only w g v0 v1 v2 v3 v4 v5 _).size]; exact hlt
  · exact RB.of_ownN (ho.kept (setSg_grown w g v0 v1 v2 v3 v4 v5 _) (Or.inr (Ne.symm hne)))
theorem Sgbox_fin {w : World} {B : Nat} (v0 v1 v2 v3 v4 v5 : Value) {A : Option Addr} {m c : Nat} {xs : List UInt8} {base : Nat} {e : TypeId} (T : TypeId) (ho : w.ownsRow base e 1 (.slice A m c) m (xs.map bv)) {W0 : World} (hb : Below B W0 w) (hg : B ≤ w.heap.size) :
    SgAt (w.alloc (.cells #[v0, v1, v2, v3, v4, v5, .slice A m c] T)) w.heap.size v0 v1 v2 v3 v4 v5 (.slice A m c) ∧ B ≤ w.heap.size ∧ w.heap.size < (w.alloc (.cells #[v0, v1, v2, v3, v4, v5, .slice A m c] T)).heap.size ∧
      RB (w.alloc (.cells #[v0, v1, v2, v3, v4, v5, .slice A m c] T)) (w.alloc (.cells #[v0, v1, v2, v3, v4, v5, .slice A m c] T)).heap.size A xs ∧ Below B W0 (w.alloc (.cells #[v0, v1, v2, v3, v4, v5, .slice A m c] T)) :=
  ⟨SgAt.box w v0 v1 v2 v3 v4 v5 _ T, hg, lt_alloc _ _, (RB.of_ownN ho).next (balloc _ _), hb.alloc hg _⟩

theorem segWithin (n m : Int) (w : World) : Calls Try.prog 71 #[.int .i64 n, .int .i64 m] w fun e w' => e = .returned (.bool (inR n m)) ∧ w = w' := by
  by_cases h1 : 0 ≤ n
  · by_cases h2 : n ≤ m
    · have H := Lib.hid (inR_iff.2 ⟨h1, h2⟩)
      go_enter Try.func71, Try.ntmps71
      go_wp2
      go_ret
      exact ⟨by rw [H.out]; rfl, rfl⟩
    · have H := Lib.hid (Bool.eq_false_iff.2 fun h => h2 (inR_iff.1 h).2)
      go_enter Try.func71, Try.ntmps71
      go_wp2
      go_ret
      exact ⟨by rw [H.out]; rfl, rfl⟩
  · have H := Lib.hid (Bool.eq_false_iff.2 fun h => h1 (inR_iff.1 h).1 : inR n m = false)
    go_enter Try.func71, Try.ntmps71
    go_wp2
    go_ret
    exact ⟨by rw [H.out]; rfl, rfl⟩
theorem segIP (n : Int) (w : World) : Calls Try.prog 66 #[.int .i64 n] w fun e w' => e = .returned (.bool (inR n 4294967295)) ∧ w = w' := by
  go_enter Try.func66, Try.ntmps66
  go_wp2_with fail
  (with_reducible refine (segWithin n 4294967295 w).mono ?_)
  rintro e w' ⟨rfl, rfl⟩
  go_wp2
  go_ret
  exact ⟨rfl, rfl⟩
theorem segPort (n : Int) (w : World) : Calls Try.prog 70 #[.int .i64 n] w fun e w' => e = .returned (.bool (inR n 65535)) ∧ w = w' := by
  go_enter Try.func70, Try.ntmps70
  go_wp2_with fail
  (with_reducible refine (segWithin n 65535 w).mono ?_)
  rintro e w' ⟨rfl, rfl⟩
  go_wp2
  go_ret
  exact ⟨rfl, rfl⟩
set_option maxRecDepth 100000 in
set_option maxHeartbeats 1600000 in
theorem segMay (sp dp sq ak fl wn : Int) (n c : Nat) (A : Option Addr) (b1 b2 b3 b4 b5 b6 : Bool) (h1 : inR sp 65535 = b1) (h2 : inR dp 65535 = b2) (h3 : inR sq 4294967295 = b3) (h4 : inR ak 4294967295 = b4) (h5 : inR fl 63 = b5) (h6 : inR wn 65535 = b6) (w : World) :
    Calls Try.prog 65 #[.agg #[.int .i64 sp, .int .i64 dp, .int .i64 sq, .int .i64 ak, .int .i64 fl, .int .i64 wn, .slice A n c]] w fun e w' => e = .returned (.bool (b1 && (b2 && (b3 && (b4 && (b5 && (b6 && decide (n ≤ 1460)))))))) ∧ Below w.heap.size w w' := by
  have HB := Lib.hid (fun r f => (Below.refl w.heap.size w).alloc (Nat.le_refl _) (.cells r f))
  have K1 := Lib.hid (fun w => h1 ▸ segPort sp w)
  have K2 := Lib.hid (fun w => h2 ▸ segPort dp w)
  have K3 := Lib.hid (fun w => h3 ▸ segWithin sq 4294967295 w)
  have K4 := Lib.hid (fun w => h4 ▸ segWithin ak 4294967295 w)
  have K5 := Lib.hid (fun w => h5 ▸ segWithin fl 63 w)
  have K6 := Lib.hid (fun w => h6 ▸ segPort wn w)
  have hc : b1 = false ∨ (b1 = true ∧ b2 = false) ∨ (b1 = true ∧ b2 = true ∧ b3 = false) ∨ (b1 = true ∧ b2 = true ∧ b3 = true ∧ b4 = false) ∨ (b1 = true ∧ b2 = true ∧ b3 = true ∧ b4 = true ∧ b5 = false) ∨ (b1 = true ∧ b2 = true ∧ b3 = true ∧ b4 = true ∧ b5 = true ∧ b6 = false) ∨ (b1 = true ∧ b2 = true ∧ b3 = true ∧ b4 = true ∧ b5 = true ∧ b6 = true ∧ n ≤ 1460) ∨ (b1 = true ∧ b2 = true ∧ b3 = true ∧ b4 = true ∧ b5 = true ∧ b6 = true ∧ ¬ n ≤ 1460) := by
    cases b1 <;> cases b2 <;> cases b3 <;> cases b4 <;> cases b5 <;> cases b6 <;> simp <;> omega
  clear h1 h2 h3 h4 h5 h6
  rcases hc with rfl | ⟨rfl, rfl⟩ | ⟨rfl, rfl, rfl⟩ | ⟨rfl, rfl, rfl, rfl⟩ | ⟨rfl, rfl, rfl, rfl, rfl⟩ | ⟨rfl, rfl, rfl, rfl, rfl, rfl⟩ | ⟨rfl, rfl, rfl, rfl, rfl, rfl, hn⟩ | ⟨rfl, rfl, rfl, rfl, rfl, rfl, hn⟩
  all_goals
    go_enter Try.func65, Try.ntmps65
    go_wp2_with (first
      | (go_at_call 70; (with_reducible refine (K1.out _).mono ?_); rintro e w' ⟨rfl, rfl⟩; clear K1)
      | (go_at_call 70; (with_reducible refine (K2.out _).mono ?_); rintro e w' ⟨rfl, rfl⟩; clear K2)
      | (go_at_call 71; (with_reducible refine (K3.out _).mono ?_); rintro e w' ⟨rfl, rfl⟩; clear K3)
      | (go_at_call 71; (with_reducible refine (K4.out _).mono ?_); rintro e w' ⟨rfl, rfl⟩; clear K4)
      | (go_at_call 71; (with_reducible refine (K5.out _).mono ?_); rintro e w' ⟨rfl, rfl⟩; clear K5)
      | (go_at_call 70; (with_reducible refine (K6.out _).mono ?_); rintro e w' ⟨rfl, rfl⟩; clear K6))
    go_ret
    exact ⟨by first | (simp [*]; done) | (simp [*]; omega), HB.out _ _⟩
set_option maxRecDepth 100000 in
set_option maxHeartbeats 1600000 in
theorem refSeg (sp dp sq ak fl wn : Int) (n c : Nat) (A : Option Addr) (b1 b2 b3 b4 b5 b6 : Bool) (h1 : inR sp 65535 = b1) (h2 : inR dp 65535 = b2) (h3 : inR sq 4294967295 = b3) (h4 : inR ak 4294967295 = b4) (h5 : inR fl 63 = b5) (h6 : inR wn 65535 = b6) (w : World) :
    Calls Try.prog 49 #[.agg #[.int .i64 sp, .int .i64 dp, .int .i64 sq, .int .i64 ak, .int .i64 fl, .int .i64 wn, .slice A n c]] w fun e w' => e = .returned (.bool (b1 && (b2 && (b3 && (b4 && (b5 && (b6 && decide (n ≤ 1460)))))))) ∧ Below w.heap.size w w' := by
  have HB := Lib.hid (fun r f => (Below.refl w.heap.size w).alloc (Nat.le_refl _) (.cells r f))
  have K1 := Lib.hid (fun w => h1 ▸ refNum sp 65535 w)
  have K2 := Lib.hid (fun w => h2 ▸ refNum dp 65535 w)
  have K3 := Lib.hid (fun w => h3 ▸ refWord sq w)
  have K4 := Lib.hid (fun w => h4 ▸ refWord ak w)
  have K5 := Lib.hid (fun w => h5 ▸ refNum fl 63 w)
  have K6 := Lib.hid (fun w => h6 ▸ refNum wn 65535 w)
  have hc : b1 = false ∨ (b1 = true ∧ b2 = false) ∨ (b1 = true ∧ b2 = true ∧ b3 = false) ∨ (b1 = true ∧ b2 = true ∧ b3 = true ∧ b4 = false) ∨ (b1 = true ∧ b2 = true ∧ b3 = true ∧ b4 = true ∧ b5 = false) ∨ (b1 = true ∧ b2 = true ∧ b3 = true ∧ b4 = true ∧ b5 = true ∧ b6 = false) ∨ (b1 = true ∧ b2 = true ∧ b3 = true ∧ b4 = true ∧ b5 = true ∧ b6 = true ∧ n ≤ 1460) ∨ (b1 = true ∧ b2 = true ∧ b3 = true ∧ b4 = true ∧ b5 = true ∧ b6 = true ∧ ¬ n ≤ 1460) := by
    cases b1 <;> cases b2 <;> cases b3 <;> cases b4 <;> cases b5 <;> cases b6 <;> simp <;> omega
  clear h1 h2 h3 h4 h5 h6
  rcases hc with rfl | ⟨rfl, rfl⟩ | ⟨rfl, rfl, rfl⟩ | ⟨rfl, rfl, rfl, rfl⟩ | ⟨rfl, rfl, rfl, rfl, rfl⟩ | ⟨rfl, rfl, rfl, rfl, rfl, rfl⟩ | ⟨rfl, rfl, rfl, rfl, rfl, rfl, hn⟩ | ⟨rfl, rfl, rfl, rfl, rfl, rfl, hn⟩
  all_goals
    go_enter Try.func49, Try.ntmps49
    go_wp2_with (first
      | (go_at_call 62; (with_reducible refine (K1.out _).mono ?_); rintro e w' ⟨rfl, rfl⟩; clear K1)
      | (go_at_call 62; (with_reducible refine (K2.out _).mono ?_); rintro e w' ⟨rfl, rfl⟩; clear K2)
      | (go_at_call 50; (with_reducible refine (K3.out _).mono ?_); rintro e w' ⟨rfl, rfl⟩; clear K3)
      | (go_at_call 50; (with_reducible refine (K4.out _).mono ?_); rintro e w' ⟨rfl, rfl⟩; clear K4)
      | (go_at_call 62; (with_reducible refine (K5.out _).mono ?_); rintro e w' ⟨rfl, rfl⟩; clear K5)
      | (go_at_call 62; (with_reducible refine (K6.out _).mono ?_); rintro e w' ⟨rfl, rfl⟩; clear K6))
    go_ret
    exact ⟨by first | (simp [*]; done) | (simp [*]; omega), HB.out _ _⟩
theorem num13 (n : Int) (w : World) : Calls Try.prog 51 #[.int .i64 n] w fun e w' => e = .returned (.int .i64 n) ∧ w = w' := by
  go_enter Try.func51, Try.ntmps51
  go_wp2
  go_ret
  exact ⟨rfl, rfl⟩
set_option maxRecDepth 100000 in
set_option maxHeartbeats 1600000 in
theorem eqSeg (sp dp sq ak fl wn : Int) (xs : List UInt8) (n : Nat) (hl : xs.length = n) (A B : Option Addr) (c c2 : Nat) (w : World) (hx : RB w w.heap.size A xs) (hy : RB w w.heap.size B xs) (hn : n ≤ 140737488351232) :
    Calls Try.prog 53 #[.agg #[.int .i64 sp, .int .i64 dp, .int .i64 sq, .int .i64 ak, .int .i64 fl, .int .i64 wn, .slice A n c], .agg #[.int .i64 sp, .int .i64 dp, .int .i64 sq, .int .i64 ak, .int .i64 fl, .int .i64 wn, .slice B n c2]] w fun e w' => e = .returned (.bool true) ∧ Below w.heap.size w w' := by
  subst hl
  have hb1 := fun r f => (Below.refl w.heap.size w).alloc (Nat.le_refl _) (.cells r f)
  have hb2 := fun r f r2 f2 => (hb1 r f).alloc (hb1 r f).size (.cells r2 f2)
  have HB := Lib.hid hb2
  have HX := Lib.hid (fun r f r2 f2 => hx.next (hb2 r f r2 f2))
  have HY := Lib.hid (fun r f r2 f2 => hy.next (hb2 r f r2 f2))
  clear hx hy hb1 hb2
  go_enter Try.func53, Try.ntmps53
  go_wp2_with fail
  ((with_reducible refine (eqBytes xs A B c c2 _ (HX.out _ _ _ _) (HY.out _ _ _ _) ?_).mono ?_); (unfold maxLen; omega))
  rintro e w' ⟨rfl, hw⟩
  have hb := (HB.out _ _ _ _).trans ((below_of_drewN hw).mono (HB.out _ _ _ _).size)
  clear hw
  go_wp2
  go_ret
  exact ⟨rfl, hb⟩
set_option maxRecDepth 100000 in
set_option maxHeartbeats 1600000 in
theorem copySeg (sp dp sq ak fl wn : Int) (xs : List UInt8) (n : Nat) (hl : xs.length = n) (A : Option Addr) (c : Nat) (w : World) (hx : RB w w.heap.size A xs) (hn : n ≤ 140737488351232) :
    Calls Try.prog 47 #[.agg #[.int .i64 sp, .int .i64 dp, .int .i64 sq, .int .i64 ak, .int .i64 fl, .int .i64 wn, .slice A n c]] w fun e w' => ∃ A' c', e = .returned (.agg #[.int .i64 sp, .int .i64 dp, .int .i64 sq, .int .i64 ak, .int .i64 fl, .int .i64 wn, .slice A' n c']) ∧ w'.ownsRow w.heap.size 5 1 (.slice A' n c') n (xs.map bv) ∧ Below w.heap.size w w' := by
  subst hl
  go_enter Try.func47, Try.ntmps47
  go_wp2_with fail
  have hbA := (Below.refl w.heap.size w).alloc (Nat.le_refl _) (.cells #[.int .i64 sp, .int .i64 dp, .int .i64 sq, .int .i64 ak, .int .i64 fl, .int .i64 wn, .slice A xs.length c] 71)
  have hbB := (hbA.alloc hbA.size (.cells #[.int .i64 0, .int .i64 0, .int .i64 0, .int .i64 0, .int .i64 0, .int .i64 0, .slice none 0 0] 71))
  have hbC := (hbB.alloc hbB.size (.cells #[.int .i64 sp, .int .i64 dp, .int .i64 sq, .int .i64 ak, .int .i64 fl, .int .i64 wn, .slice A xs.length c] 71))
  ((with_reducible refine (copyBytes xs A c _ (hx.next hbC) ?_).mono ?_); omega)
  rintro e w1 ⟨A1, p1, rfl, hown, hb1⟩
  have cc : ∀ k v, (#[Value.int .i64 sp, .int .i64 dp, .int .i64 sq, .int .i64 ak, .int .i64 fl, .int .i64 wn, .slice A xs.length c] : Array Value)[k]? = some v → w1.cell? ⟨w.heap.size + 1 + 1, k, none⟩ = some v := by
    intro k v h
    rw [hb1.cell (p := ⟨w.heap.size + 1 + 1, k, none⟩) (by simp only [World.size_alloc]; omega), World.cell?_alloc_at _ _ _ k (by simp only [World.size_alloc])]
    exact h
  have cz : ∀ k v, (#[Value.int .i64 0, .int .i64 0, .int .i64 0, .int .i64 0, .int .i64 0, .int .i64 0, .slice none 0 0] : Array Value)[k]? = some v → w1.cell? ⟨w.heap.size + 1, k, none⟩ = some v := by
    intro k v h
    rw [hb1.cell (p := ⟨w.heap.size + 1, k, none⟩) (by simp only [World.size_alloc]; omega), World.cell?_alloc_past _ _ k (by simp only [World.size_alloc]; omega), World.cell?_alloc_at _ _ _ k (by simp only [World.size_alloc])]
    exact h
  have fc : ∀ k, w1.frozen? ⟨w.heap.size + 1 + 1, k, none⟩ = false := by
    intro k
    rw [hb1.frozen (p := ⟨w.heap.size + 1 + 1, k, none⟩) (by simp only [World.size_alloc]; omega), World.frozen?_alloc_at _ _ _ k (by simp only [World.size_alloc])]
  have fz : ∀ k, w1.frozen? ⟨w.heap.size + 1, k, none⟩ = false := by
    intro k
    rw [hb1.frozen (p := ⟨w.heap.size + 1, k, none⟩) (by simp only [World.size_alloc]; omega), World.frozen?_alloc_past _ _ k (by simp only [World.size_alloc]; omega), World.frozen?_alloc_at _ _ _ k (by simp only [World.size_alloc])]
  have c0 := cc 0 (.int .i64 sp) rfl
  have c1 := cc 1 (.int .i64 dp) rfl
  have c2 := cc 2 (.int .i64 sq) rfl
  have c3 := cc 3 (.int .i64 ak) rfl
  have c4 := cc 4 (.int .i64 fl) rfl
  have c5 := cc 5 (.int .i64 wn) rfl
  have c6 := cc 6 (.slice A xs.length c) rfl
  have z0 := cz 0 (.int .i64 0) rfl
  have z1 := cz 1 (.int .i64 0) rfl
  have z2 := cz 2 (.int .i64 0) rfl
  have z3 := cz 3 (.int .i64 0) rfl
  have z4 := cz 4 (.int .i64 0) rfl
  have z5 := cz 5 (.int .i64 0) rfl
  have z6 := cz 6 (.slice none 0 0) rfl
  have f6 := fc 6
  have y0 := fz 0
  have y1 := fz 1
  have y2 := fz 2
  have y3 := fz 3
  have y4 := fz 4
  have y5 := fz 5
  have y6 := fz 6
  have hbW := hbC.trans (hb1.mono hbC.size)
  have g1 : w.heap.size + 1 < (((w.alloc (.cells #[.int .i64 sp, .int .i64 dp, .int .i64 sq, .int .i64 ak, .int .i64 fl, .int .i64 wn, .slice A xs.length c] 71)).alloc (.cells #[.int .i64 0, .int .i64 0, .int .i64 0, .int .i64 0, .int .i64 0, .int .i64 0, .slice none 0 0] 71)).alloc (.cells #[.int .i64 sp, .int .i64 dp, .int .i64 sq, .int .i64 ak, .int .i64 fl, .int .i64 wn, .slice A xs.length c] 71)).heap.size := by simp only [World.size_alloc]; omega
  have g2 : w.heap.size + 1 + 1 < (((w.alloc (.cells #[.int .i64 sp, .int .i64 dp, .int .i64 sq, .int .i64 ak, .int .i64 fl, .int .i64 wn, .slice A xs.length c] 71)).alloc (.cells #[.int .i64 0, .int .i64 0, .int .i64 0, .int .i64 0, .int .i64 0, .int .i64 0, .slice none 0 0] 71)).alloc (.cells #[.int .i64 sp, .int .i64 dp, .int .i64 sq, .int .i64 ak, .int .i64 fl, .int .i64 wn, .slice A xs.length c] 71)).heap.size := by simp only [World.size_alloc]; omega
  have HO := Lib.hid (own_base (ownsRow_setCell_below (ownsRow_setCell_below (ownsRow_setCell_below (ownsRow_setCell_below (ownsRow_setCell_below (ownsRow_setCell_below (ownsRow_setCell_below (ownsRow_setCell_below hown (a := ⟨w.heap.size + 1 + 1, 6, none⟩) g2 (.slice A1 xs.length p1)) (a := ⟨w.heap.size + 1, 0, none⟩) g1 (.int .i64 sp)) (a := ⟨w.heap.size + 1, 1, none⟩) g1 (.int .i64 dp)) (a := ⟨w.heap.size + 1, 2, none⟩) g1 (.int .i64 sq)) (a := ⟨w.heap.size + 1, 3, none⟩) g1 (.int .i64 ak)) (a := ⟨w.heap.size + 1, 4, none⟩) g1 (.int .i64 fl)) (a := ⟨w.heap.size + 1, 5, none⟩) g1 (.int .i64 wn)) (a := ⟨w.heap.size + 1, 6, none⟩) g1 (.slice A1 xs.length p1)) hbC.size)
  have HB := Lib.hid (((((((((Only.refl (w.heap.size + 1) (w1.setCell ⟨w.heap.size + 1 + 1, 6, none⟩ (.slice A1 xs.length p1))).set 0 (.int .i64 sp)).set 1 (.int .i64 dp)).set 2 (.int .i64 sq)).set 3 (.int .i64 ak)).set 4 (.int .i64 fl)).set 5 (.int .i64 wn)).set 6 (.slice A1 xs.length p1)).below _ _ (((Only.refl (w.heap.size + 1 + 1) w1).set 6 (.slice A1 xs.length p1)).below _ _ hbW (by omega)) (by omega))
  clear hown hbA hbB hbC hx cc fc fz cz g1 g2 hbW hb1
  go_wp2_with fail
  refine bodyPost_ret (v := .agg #[.int .i64 sp, .int .i64 dp, .int .i64 sq, .int .i64 ak, .int .i64 fl, .int .i64 wn, .slice A1 xs.length p1]) (by simp [results, Try.results47, go_sem, z0, z1, z2, z3, z4, z5, z6]) rfl ⟨A1, p1, rfl, HO.out, HB.out⟩
set_option maxRecDepth 100000 in
theorem heavy13 (n0 n1 n2 n3 n4 n5 n7 n8 : Int) (n c m c2 : Nat) (A B : Option Addr) (w : World) :
    Calls Try.prog 46 #[.agg #[.int .i64 n0, .int .i64 n1, .int .i64 n2, .int .i64 n3, .int .i64 n4, .int .i64 n5, .slice A n c, .int .i64 n7, .int .i64 n8, .slice B m c2]] w fun e w' => ∃ r, e = .returned (.bool r) ∧ (r = false → n ≤ 4000 ∧ m ≤ 4000) ∧ Below w.heap.size w w' := by
  have HB := Lib.hid (fun r f => (Below.refl w.heap.size w).alloc (Nat.le_refl _) (.cells r f))
  have hc : (n ≤ 4000 ∧ m ≤ 4000) ∨ (n ≤ 4000 ∧ ¬ m ≤ 4000) ∨ ¬ n ≤ 4000 := by omega
  rcases hc with ⟨h1, h2⟩ | ⟨h1, h2⟩ | h1
  · have e1 : (n : Int) ≤ 4000 := by omega
    have e2 : (m : Int) ≤ 4000 := by omega
    go_enter Try.func46, Try.ntmps46
    go_wp2
    go_ret
    refine ⟨false, by simp; omega, fun _ => ⟨h1, h2⟩, HB.out _ _⟩
  · have e1 : (n : Int) ≤ 4000 := by omega
    have e2 : ¬ (m : Int) ≤ 4000 := by omega
    go_enter Try.func46, Try.ntmps46
    go_wp2
    go_ret
    exact ⟨rfl, HB.out _ _⟩
  · have e1 : ¬ (n : Int) ≤ 4000 := by omega
    go_enter Try.func46, Try.ntmps46
    go_wp2
    go_ret
    exact ⟨rfl, HB.out _ _⟩

end Go.Proofs.Ytjdokaiadljeeaa
