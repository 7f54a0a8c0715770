/-
  The walks of heavy and CopyPacket.
-/
import Derived.Test.YtjdokaiadljeeaaIpW
namespace Go.Proofs.Ytjdokaiadljeeaa
open Go.RowKit

set_option maxRecDepth 100000 in
theorem heavy10 (s d p t i : Int) (n c m c2 : Nat) (A B : Option Addr) (w : World) :
    Calls Try.prog 35 #[.agg #[.int .i64 s, .int .i64 d, .int .i64 p, .int .i64 t, .int .i64 i, .slice A n c, .slice B m c2]] w fun e w' => ∃ r, e = .returned (.bool r) ∧ (r = false → n ≤ 4000 ∧ m ≤ 4000) ∧ Below w.heap.size w w' := by
  have HB := Lib.hid (fun r f => (Below.refl w.heap.size w).alloc (Nat.le_refl _) (.cells r f))
  have hc : (n ≤ 4000 ∧ m ≤ 4000) ∨ (n ≤ 4000 ∧ ¬ m ≤ 4000) ∨ ¬ n ≤ 4000 := by omega
  rcases hc with ⟨h1, h2⟩ | ⟨h1, h2⟩ | h1
  · have e1 : (n : Int) ≤ 4000 := by omega
    have e2 : (m : Int) ≤ 4000 := by omega
    go_enter Try.func35, Try.ntmps35
    go_wp2
    go_ret
    refine ⟨false, by simp; omega, fun _ => ⟨h1, h2⟩, HB.out _ _⟩
  · have e1 : (n : Int) ≤ 4000 := by omega
    have e2 : ¬ (m : Int) ≤ 4000 := by omega
    go_enter Try.func35, Try.ntmps35
    go_wp2
    go_ret
    exact ⟨rfl, HB.out _ _⟩
  · have e1 : ¬ (n : Int) ≤ 4000 := by omega
    go_enter Try.func35, Try.ntmps35
    go_wp2
    go_ret
    exact ⟨rfl, HB.out _ _⟩

set_option maxRecDepth 100000 in
set_option maxHeartbeats 1600000 in
theorem copyPacket (s d p t i : Int) (xs : List UInt8) (n : Nat) (hl : xs.length = n) (A : Option Addr) (c : Nat) (w : World) (hx : RB w w.heap.size A xs) (hn : n ≤ 140737488351232) :
    Calls Try.prog 36 #[.agg #[.int .i64 s, .int .i64 d, .int .i64 p, .int .i64 t, .int .i64 i, .slice A n c]] w fun e w' => ∃ A' c', e = .returned (.agg #[.int .i64 s, .int .i64 d, .int .i64 p, .int .i64 t, .int .i64 i, .slice A' n c']) ∧ w'.ownsRow w.heap.size 5 1 (.slice A' n c') n (xs.map bv) ∧ Below w.heap.size w w' := by
  subst hl
  go_enter Try.func36, Try.ntmps36
  go_wp2_with fail
  have hbA := (Below.refl w.heap.size w).alloc (Nat.le_refl _) (.cells #[.int .i64 s, .int .i64 d, .int .i64 p, .int .i64 t, .int .i64 i, .slice A xs.length c] 53)
  have hbB := (hbA.alloc hbA.size (.cells #[.int .i64 0, .int .i64 0, .int .i64 0, .int .i64 0, .int .i64 0, .slice none 0 0] 53))
  have hbC := (hbB.alloc hbB.size (.cells #[.int .i64 s, .int .i64 d, .int .i64 p, .int .i64 t, .int .i64 i, .slice A xs.length c] 53))
  ((with_reducible refine (copyBytes xs A c _ (hx.next hbC) ?_).mono ?_); omega)
  rintro e w1 ⟨A1, p1, rfl, hown, hb1⟩
  have cc : ∀ k v, (#[Value.int .i64 s, .int .i64 d, .int .i64 p, .int .i64 t, .int .i64 i, .slice A xs.length c] : Array Value)[k]? = some v → w1.cell? ⟨w.heap.size + 1 + 1, k, none⟩ = some v := by
    intro k v h
    rw [hb1.cell (p := ⟨w.heap.size + 1 + 1, k, none⟩) (by simp only [World.size_alloc]; omega), World.cell?_alloc_at _ _ _ k (by simp only [World.size_alloc])]
    exact h
  have cz : ∀ k v, (#[Value.int .i64 0, .int .i64 0, .int .i64 0, .int .i64 0, .int .i64 0, .slice none 0 0] : Array Value)[k]? = some v → w1.cell? ⟨w.heap.size + 1, k, none⟩ = some v := by
    intro k v h
    rw [hb1.cell (p := ⟨w.heap.size + 1, k, none⟩) (by simp only [World.size_alloc]; omega), World.cell?_alloc_past _ _ k (by simp only [World.size_alloc]; omega), World.cell?_alloc_at _ _ _ k (by simp only [World.size_alloc])]
    exact h
  have fc : ∀ k, w1.frozen? ⟨w.heap.size + 1 + 1, k, none⟩ = false := by
    intro k
    rw [hb1.frozen (p := ⟨w.heap.size + 1 + 1, k, none⟩) (by simp only [World.size_alloc]; omega), World.frozen?_alloc_at _ _ _ k (by simp only [World.size_alloc])]
  have fz : ∀ k, w1.frozen? ⟨w.heap.size + 1, k, none⟩ = false := by
    intro k
    rw [hb1.frozen (p := ⟨w.heap.size + 1, k, none⟩) (by simp only [World.size_alloc]; omega), World.frozen?_alloc_past _ _ k (by simp only [World.size_alloc]; omega), World.frozen?_alloc_at _ _ _ k (by simp only [World.size_alloc])]
  have c0 := cc 0 (.int .i64 s) rfl
  have c1 := cc 1 (.int .i64 d) rfl
  have c2 := cc 2 (.int .i64 p) rfl
  have c3 := cc 3 (.int .i64 t) rfl
  have c4 := cc 4 (.int .i64 i) rfl
  have c5 := cc 5 (.slice A xs.length c) rfl
  have z0 := cz 0 (.int .i64 0) rfl
  have z1 := cz 1 (.int .i64 0) rfl
  have z2 := cz 2 (.int .i64 0) rfl
  have z3 := cz 3 (.int .i64 0) rfl
  have z4 := cz 4 (.int .i64 0) rfl
  have z5 := cz 5 (.slice none 0 0) rfl
  have f5 := fc 5
  have y0 := fz 0
  have y1 := fz 1
  have y2 := fz 2
  have y3 := fz 3
  have y4 := fz 4
  have y5 := fz 5
  have hbW := hbC.trans (hb1.mono hbC.size)
  have g1 : w.heap.size + 1 < (((w.alloc (.cells #[.int .i64 s, .int .i64 d, .int .i64 p, .int .i64 t, .int .i64 i, .slice A xs.length c] 53)).alloc (.cells #[.int .i64 0, .int .i64 0, .int .i64 0, .int .i64 0, .int .i64 0, .slice none 0 0] 53)).alloc (.cells #[.int .i64 s, .int .i64 d, .int .i64 p, .int .i64 t, .int .i64 i, .slice A xs.length c] 53)).heap.size := by simp only [World.size_alloc]; omega
  have g2 : w.heap.size + 1 + 1 < (((w.alloc (.cells #[.int .i64 s, .int .i64 d, .int .i64 p, .int .i64 t, .int .i64 i, .slice A xs.length c] 53)).alloc (.cells #[.int .i64 0, .int .i64 0, .int .i64 0, .int .i64 0, .int .i64 0, .slice none 0 0] 53)).alloc (.cells #[.int .i64 s, .int .i64 d, .int .i64 p, .int .i64 t, .int .i64 i, .slice A xs.length c] 53)).heap.size := by simp only [World.size_alloc]; omega
  have HO := Lib.hid (own_base (ownsRow_setCell_below (ownsRow_setCell_below (ownsRow_setCell_below (ownsRow_setCell_below (ownsRow_setCell_below (ownsRow_setCell_below (ownsRow_setCell_below hown (a := ⟨w.heap.size + 1 + 1, 5, none⟩) g2 (.slice A1 xs.length p1)) (a := ⟨w.heap.size + 1, 0, none⟩) g1 (.int .i64 s)) (a := ⟨w.heap.size + 1, 1, none⟩) g1 (.int .i64 d)) (a := ⟨w.heap.size + 1, 2, none⟩) g1 (.int .i64 p)) (a := ⟨w.heap.size + 1, 3, none⟩) g1 (.int .i64 t)) (a := ⟨w.heap.size + 1, 4, none⟩) g1 (.int .i64 i)) (a := ⟨w.heap.size + 1, 5, none⟩) g1 (.slice A1 xs.length p1)) hbC.size)
  have HB := Lib.hid (((((((Only.refl (w.heap.size + 1) (w1.setCell ⟨w.heap.size + 1 + 1, 5, none⟩ (.slice A1 xs.length p1))).set 0 (.int .i64 s)).set 1 (.int .i64 d)).set 2 (.int .i64 p)).set 3 (.int .i64 t)).set 4 (.int .i64 i)).set 5 (.slice A1 xs.length p1) |>.below _ _ (((Only.refl (w.heap.size + 1 + 1) w1).set 5 (.slice A1 xs.length p1)).below _ _ hbW (by omega)) (by omega))
  clear hown hbA hbB hbC hx cc fc fz cz g1 g2 hbW hb1
  go_wp2_with fail
  refine bodyPost_ret (v := .agg #[.int .i64 s, .int .i64 d, .int .i64 p, .int .i64 t, .int .i64 i, .slice A1 xs.length p1]) (by simp [results, Try.results36, go_sem, z0, z1, z2, z3, z4, z5]) rfl ⟨A1, p1, rfl, HO.out, HB.out⟩

end Go.Proofs.Ytjdokaiadljeeaa
