/-
  What the laws of chapter 10 share: a row of the argument in a later world; wakes.
-/
import Derived.Test.YtjdokaiadljeeaaIpRP
import Derived.Test.YtjdokaiadljeeaaIpRB
import Derived.Test.YtjdokaiadljeeaaIpAsk
import Derived.Test.YtjdokaiadljeeaaIpFacts
import Derived.Test.YtjdokaiadljeeaaSpoilW
namespace Go.Proofs.Ytjdokaiadljeeaa
open Go.RowKit

def IpRow (W : World) (b a : Nat) (n0 n1 n2 n3 n4 : Int) (xs5 : List UInt8) (B5 : Option Addr) (p5 : Nat) (xs6 : List UInt8) (B6 : Option Addr) (p6 : Nat) : Prop :=
  b < W.heap.size ∧ W.cell? ⟨b, a, none⟩ = some (.int .i64 n0) ∧ W.cell? ⟨b, a + 1, none⟩ = some (.int .i64 n1) ∧ W.cell? ⟨b, a + 2, none⟩ = some (.int .i64 n2) ∧ W.cell? ⟨b, a + 3, none⟩ = some (.int .i64 n3) ∧ W.cell? ⟨b, a + 4, none⟩ = some (.int .i64 n4) ∧
    W.cell? ⟨b, a + 5, none⟩ = some (.slice B5 xs5.length p5) ∧ W.cell? ⟨b, a + 6, none⟩ = some (.slice B6 xs6.length p6) ∧ RB W W.heap.size B5 xs5 ∧ RB W W.heap.size B6 xs6
theorem IpRow.next {W w : World} {b a : Nat} {n0 n1 n2 n3 n4 : Int} {xs5 : List UInt8} {B5 : Option Addr} {p5 : Nat} {xs6 : List UInt8} {B6 : Option Addr} {p6 : Nat} (h : IpRow W b a n0 n1 n2 n3 n4 xs5 B5 p5 xs6 B6 p6) (hb : Below W.heap.size W w) :
    IpRow w b a n0 n1 n2 n3 n4 xs5 B5 p5 xs6 B6 p6 := by
  obtain ⟨hlt, c0, c1, c2, c3, c4, c5, c6, r5, r6⟩ := h
  exact ⟨Nat.lt_of_lt_of_le hlt hb.size, (cellB hb hlt).trans c0, (cellB hb hlt).trans c1, (cellB hb hlt).trans c2, (cellB hb hlt).trans c3, (cellB hb hlt).trans c4, (cellB hb hlt).trans c5, (cellB hb hlt).trans c6, r5.next hb, r6.next hb⟩
theorem IpAsk.row {W : World} {A : Option Addr} {len : Nat} (h : IpAsk W A len) (i : Nat) (hi : i < len) :
    ∃ (b o : Nat) (n0 n1 n2 n3 n4 : Int) (xs5 : List UInt8) (B5 : Option Addr) (p5 : Nat) (xs6 : List UInt8) (B6 : Option Addr) (p6 : Nat), A = some ⟨b, o, none⟩ ∧ IpRow W b (o + i * 7) n0 n1 n2 n3 n4 xs5 B5 p5 xs6 B6 p6 ∧ xs5.length ≤ p5 ∧ p5 ≤ 140737488351232 ∧ xs6.length ≤ p6 ∧ p6 ≤ 140737488351232 := by
  obtain ⟨b, o, n0, n1, n2, n3, n4, xs5, B5, p5, xs6, B6, p6, hA, hlt, c0, a0, z0, c1, a1, z1, c2, a2, z2, c3, a3, z3, c4, a4, z4, c5, a5, z5, r5, c6, a6, z6, r6⟩ := h i hi
  exact ⟨b, o, n0, n1, n2, n3, n4, xs5, B5, p5, xs6, B6, p6, hA, ⟨hlt, c0, c1, c2, c3, c4, c5, c6, r5, r6⟩, a5, z5, a6, z6⟩

theorem ipParseQ (xs : List UInt8) (n : Nat) (hl : xs.length = n) (A : Option Addr) (c : Nat) (hnc : n ≤ c) (w : World) (hx : RB w w.heap.size A xs) (hn : n ≤ 140737488351232)
    (s d p t i er : Int) (ys : List UInt8) (hq : parseOut xs = (⟨s, d, p, t, i, ys⟩, er)) :
    Calls Try.prog 43 #[.slice A n c] w fun e w' => ∃ A' c', e = .returned (.tuple #[.agg #[.int .i64 s, .int .i64 d, .int .i64 p, .int .i64 t, .int .i64 i, .slice A' ys.length c'], .int .i64 er]) ∧ w'.ownsRow w.heap.size 5 1 (.slice A' ys.length c') ys.length (ys.map bv) ∧ Below w.heap.size w w' := by
  have := ipParse xs n hl A c hnc w hx hn
  rw [hq] at this
  exact this
theorem refParseQ (xs : List UInt8) (n : Nat) (hl : xs.length = n) (A : Option Addr) (c : Nat) (hnc : n ≤ c) (w : World) (hx : RB w w.heap.size A xs) (hn : n ≤ 140737488351232)
    (s d p t i er : Int) (ys : List UInt8) (hq : parseOut xs = (⟨s, d, p, t, i, ys⟩, er)) :
    Calls Try.prog 44 #[.slice A n c] w fun e w' => ∃ A' c', e = .returned (.tuple #[.agg #[.int .i64 s, .int .i64 d, .int .i64 p, .int .i64 t, .int .i64 i, .slice A' ys.length c'], .int .i64 er]) ∧ w'.ownsRow w.heap.size 5 1 (.slice A' ys.length c') ys.length (ys.map bv) ∧ Below w.heap.size w w' := by
  have := refParse xs n hl A c hnc w hx hn
  rw [hq] at this
  exact this
theorem parseOut_len (xs : List UInt8) : (parseOut xs).1.xs.length ≤ xs.length := by
  unfold parseOut
  repeat' split
  all_goals first | (simp [Pk.zero]; done) | skip
  simp [parsed]
  omega

theorem RB.of_ownN {w : World} {base n c : Nat} {e : TypeId} {A : Option Addr} {xs : List UInt8} (h : w.ownsRow base e 1 (.slice A n c) n (xs.map bv)) : RB w w.heap.size A xs := by
  have hl : xs.length = n := by simpa using h.1
  subst hl
  exact RB.of_own h
/-- append(v, src...) of bytes, as one step of a region that draws. -/
theorem step_append_bytes {P : Program} {ops : Array Oper} {o : Oper} {a : Act} {w : World} {K : Act → World → Prop} {Q : Exit → Act → World → Prop} {E : Prop} (hgd : o.guard = none) (s x : Operand) (t : TypeId)
    (ho : o.op = .call { callee := .builtin .append, args := #[s, x], argTypes := #[t, t] })
    (base : Nat) (e : TypeId) (ht : P.underlying t = some (.slice e)) (hi : (P.info? e).map (fun i => (i.zero, i.size, i.bytes)) = some (some (.int .u8 0), 1, 1))
    (v : Value) (n : Nat) (xs : List UInt8) (hs : a.eval s = v) (hown : w.ownsRow base e 1 v n (xs.map bv)) (A : Option Addr) (m c : Nat) (ys : List UInt8) (hm : ys.length = m) (hx : a.eval x = .slice A m c) (hr : RB w w.heap.size A ys)
    (hn : n + m ≤ 140737488355328) (hbase : base ≤ w.heap.size)
    (h : ∀ A' c' w', w'.ownsRow base e 1 (.slice A' (n + m) c') (n + m) ((xs ++ ys).map bv) → Below base w w' → w.grownBy w' v.ownBlock → K (a.put o.dst (.slice A' (n + m) c')) w') :
    if Region.wanted o (yielded ops a.tmps) = true then Oper.wp P o a w K Q else E := by
  have hw : Region.wanted o (yielded ops a.tmps) = true := by simp [Region.wanted, hgd]
  rw [if_pos hw]
  subst hm
  obtain ⟨A', c', w', hrun, h2, h3⟩ := run_append_read (P := P) w base t o.type e (.int .u8 0) 1 1 ht hi rfl (by decide) v n (xs.map bv) hown w.heap.size A ys.length c (ys.map bv) hr (bv_one ys) (by unfold maxLen; omega) (by omega) hbase
  unfold Oper.wp execOp
  simp only [ho, resolve, invoke, builtin, Sem.run_bind, Sem.run_pure, Result.andThen_ok, List.map_toArray, List.map_cons, List.map_nil, hs, hx, hrun]
  exact h _ _ _ (by rw [List.map_append]; exact h2) ((Below.refl _ _).grown h3 hbase fun k hk => (hown.lt k hk).1) h3
theorem lt_alloc (w : World) (o : Obj) : w.heap.size < (w.alloc o).heap.size := by rw [World.size_alloc]; omega
theorem lt_alloc_drew (w : World) (o : Obj) : w.heap.size < (w.alloc o).drew.heap.size := lt_alloc w o
theorem PkAt.of {w : World} {g : Nat} {s d p t i : Int} {v : Value} (h0 : w.cell? ⟨g, 0, none⟩ = some (.int .i64 s)) (h1 : w.cell? ⟨g, 1, none⟩ = some (.int .i64 d)) (h2 : w.cell? ⟨g, 2, none⟩ = some (.int .i64 p)) (h3 : w.cell? ⟨g, 3, none⟩ = some (.int .i64 t)) (h4 : w.cell? ⟨g, 4, none⟩ = some (.int .i64 i)) (h5 : w.cell? ⟨g, 5, none⟩ = some v) : PkAt w g s d p t i v := ⟨h0, h1, h2, h3, h4, h5⟩
theorem balloc (w : World) (o : Obj) : Below w.heap.size w (w.alloc o) := (Below.refl _ _).alloc (Nat.le_refl _) _
/-- a packet's cells, which may be written. -/
def PkF (w : World) (g : Nat) (s d p t i : Int) (v : Value) : Prop := PkAt w g s d p t i v ∧ ∀ k, w.frozen? ⟨g, k, none⟩ = false
section
variable {w w' : World} {g : Nat} {s d p t i : Int} {v : Value} {T : TypeId}
theorem PkF.box (w : World) (s d p t i : Int) (v : Value) (T : TypeId) : PkF (w.alloc (.cells #[.int .i64 s, .int .i64 d, .int .i64 p, .int .i64 t, .int .i64 i, v] T)) w.heap.size s d p t i v :=
  ⟨PkAt.box w s d p t i v T, fun k => World.frozen?_alloc_at _ _ _ k rfl⟩
theorem PkF.below {B : Nat} (h : PkF w g s d p t i v) (hb : Below B w w') (hg : g < B) : PkF w' g s d p t i v := ⟨h.1.below hb hg, fun k => (frozB hb hg).trans (h.2 k)⟩
theorem PkF.grown {row : Option Nat} (h : PkF w g s d p t i v) (hg : w.grownBy w' row) (hlt : g < w.heap.size) (hne : some g ≠ row) : PkF w' g s d p t i v := by
  have hc : ∀ k, w'.cell? ⟨g, k, none⟩ = w.cell? ⟨g, k, none⟩ := fun k => World.cell?_of_block (a := ⟨g, k, none⟩) (hg.block g hlt hne)
  have hf : ∀ k, w'.frozen? ⟨g, k, none⟩ = w.frozen? ⟨g, k, none⟩ := fun k => World.frozen?_of_block (a := ⟨g, k, none⟩) (hg.block g hlt hne)
  obtain ⟨⟨h0, h1, h2, h3, h4, h5⟩, hz⟩ := h
  exact ⟨⟨(hc 0).trans h0, (hc 1).trans h1, (hc 2).trans h2, (hc 3).trans h3, (hc 4).trans h4, (hc 5).trans h5⟩, fun k => (hf k).trans (hz k)⟩
theorem PkF.nextBox (hb : Below (w.alloc (.cells #[.int .i64 s, .int .i64 d, .int .i64 p, .int .i64 t, .int .i64 i, v] T)).heap.size (w.alloc (.cells #[.int .i64 s, .int .i64 d, .int .i64 p, .int .i64 t, .int .i64 i, v] T)) w') : PkF w' w.heap.size s d p t i v :=
  (PkF.box w s d p t i v T).below hb (by rw [World.size_alloc]; omega)
theorem PkF.nextBoxD (hb : Below (w.alloc (.cells #[.int .i64 s, .int .i64 d, .int .i64 p, .int .i64 t, .int .i64 i, v] T)).drew.heap.size (w.alloc (.cells #[.int .i64 s, .int .i64 d, .int .i64 p, .int .i64 t, .int .i64 i, v] T)).drew w') : PkF w' w.heap.size s d p t i v :=
  PkF.below (w := (w.alloc (.cells #[.int .i64 s, .int .i64 d, .int .i64 p, .int .i64 t, .int .i64 i, v] T)).drew) (PkF.box w s d p t i v T) hb (Nat.lt_of_lt_of_le (Nat.lt_succ_self _) (Nat.le_of_eq (World.size_alloc _ _).symm))
theorem PkF.nextGrown {row : Option Nat} (hg : (w.alloc (.cells #[.int .i64 s, .int .i64 d, .int .i64 p, .int .i64 t, .int .i64 i, v] T)).grownBy w' row) (hne : some w.heap.size ≠ row) : PkF w' w.heap.size s d p t i v :=
  (PkF.box w s d p t i v T).grown hg (by rw [World.size_alloc]; omega) hne
end
theorem own_ne {w : World} {base : Nat} {e : TypeId} {size : Nat} {v : Value} {n : Nat} {xs : List Value} (h : w.ownsRow base e size v n xs) {g : Nat} (hg : g < base ∨ w.heap.size ≤ g) : some g ≠ v.ownBlock := by
  intro e
  have := h.lt g e.symm
  omega
theorem PkF.fin {w w' : World} {g : Nat} {s d p t i : Int} {v u : Value} {e : TypeId} {size n : Nat} {xs : List Value} (h : PkF w g s d p t i v) (hb : Below w.heap.size w w') (hg : g < w.heap.size) (ho : w'.ownsRow w.heap.size e size u n xs) :
    PkF w' g s d p t i v ∧ some g ≠ u.ownBlock ∧ g < w'.heap.size :=
  ⟨h.below hb hg, own_ne ho (Or.inl hg), Nat.lt_of_lt_of_le hg hb.size⟩
theorem PkF.finBox {w w' : World} {s d p t i : Int} {v u : Value} {T e : TypeId} {size n : Nat} {xs : List Value} (hb : Below (w.alloc (.cells #[.int .i64 s, .int .i64 d, .int .i64 p, .int .i64 t, .int .i64 i, v] T)).heap.size (w.alloc (.cells #[.int .i64 s, .int .i64 d, .int .i64 p, .int .i64 t, .int .i64 i, v] T)) w')
    (ho : w'.ownsRow (w.alloc (.cells #[.int .i64 s, .int .i64 d, .int .i64 p, .int .i64 t, .int .i64 i, v] T)).heap.size e size u n xs) :
    PkF w' w.heap.size s d p t i v ∧ some w.heap.size ≠ u.ownBlock ∧ w.heap.size < w'.heap.size :=
  PkF.fin (PkF.box w s d p t i v T) hb (lt_alloc _ _) ho
/-- a packet stored into a box of the call's own: what is good for what follows. -/
theorem set6_fin {w : World} {g B : Nat} {s d p t i : Int} {v : Value} (h : PkAt w g s d p t i v) (s' d' p' t' i' : Int) {A : Option Addr} {n c : Nat} {xs : List UInt8} {base : Nat} {e : TypeId}
    (ho : w.ownsRow base e 1 (.slice A n c) n (xs.map bv)) (hne : some g ≠ (Value.slice A n c).ownBlock) {W0 : World} (hb : Below B W0 w) (hg : B ≤ g) (hlt : g < w.heap.size) :
    PkAt (set6 w g (.int .i64 s') (.int .i64 d') (.int .i64 p') (.int .i64 t') (.int .i64 i') (.slice A n c)) g s' d' p' t' i' (.slice A n c) ∧ B ≤ g ∧ g < (set6 w g (.int .i64 s') (.int .i64 d') (.int .i64 p') (.int .i64 t') (.int .i64 i') (.slice A n c)).heap.size ∧
      RB (set6 w g (.int .i64 s') (.int .i64 d') (.int .i64 p') (.int .i64 t') (.int .i64 i') (.slice A n c)) (set6 w g (.int .i64 s') (.int .i64 d') (.int .i64 p') (.int .i64 t') (.int .i64 i') (.slice A n c)).heap.size A xs ∧
      Below B W0 (set6 w g (.int .i64 s') (.int .i64 d') (.int .i64 p') (.int .i64 t') (.int .i64 i') (.slice A n c)) := by
  refine ⟨set6_at h s' d' p' t' i' _, hg, ?_, ?_, (set6_only w g _ _ _ _ _ _).below _ _ hb hg⟩
  · rw [(set6_only w g _ _ _ _ _ _).size]; exact hlt
  · exact RB.of_ownN (ho.kept (set6_grown w g _ _ _ _ _ _) (Or.inr (Ne.symm hne)))
theorem box_fin {w : World} {B : Nat} (s d p t i : Int) {A : Option Addr} {n c : Nat} {xs : List UInt8} {base : Nat} {e : TypeId} (T : TypeId) (ho : w.ownsRow base e 1 (.slice A n c) n (xs.map bv)) {W0 : World} (hb : Below B W0 w) (hg : B ≤ w.heap.size) :
    PkAt (w.alloc (.cells #[.int .i64 s, .int .i64 d, .int .i64 p, .int .i64 t, .int .i64 i, .slice A n c] T)) w.heap.size s d p t i (.slice A n c) ∧ B ≤ w.heap.size ∧ w.heap.size < (w.alloc (.cells #[.int .i64 s, .int .i64 d, .int .i64 p, .int .i64 t, .int .i64 i, .slice A n c] T)).heap.size ∧
      RB (w.alloc (.cells #[.int .i64 s, .int .i64 d, .int .i64 p, .int .i64 t, .int .i64 i, .slice A n c] T)) (w.alloc (.cells #[.int .i64 s, .int .i64 d, .int .i64 p, .int .i64 t, .int .i64 i, .slice A n c] T)).heap.size A xs ∧
      Below B W0 (w.alloc (.cells #[.int .i64 s, .int .i64 d, .int .i64 p, .int .i64 t, .int .i64 i, .slice A n c] T)) :=
  ⟨PkAt.box w s d p t i _ T, hg, lt_alloc _ _, (RB.of_ownN ho).next (balloc _ _), hb.alloc hg _⟩
theorem bytes_nat (s d p t i : Nat) (xs : List UInt8) : (Pk.mk s d p t i xs).bytes = ipHead s d p t i xs.length ++ xs := rfl
theorem pkOk_nat {n0 n1 n2 n3 n4 : Int} {xs : List UInt8} (h : Pk.ok ⟨n0, n1, n2, n3, n4, xs⟩ = true) : ∃ s d p t i : Nat, n0 = s ∧ n1 = d ∧ n2 = p ∧ n3 = t ∧ n4 = i := by
  obtain ⟨⟨h1, _⟩, ⟨h3, _⟩, ⟨h5, _⟩, ⟨h7, _⟩, ⟨h9, _⟩, _⟩ := Pk.ok_iff.1 h
  exact ⟨n0.toNat, n1.toNat, n2.toNat, n3.toNat, n4.toNat, by simp only at h1; omega, by simp only at h3; omega, by simp only at h5; omega, by simp only at h7; omega, by simp only at h9; omega⟩
theorem eqBytesN (xs : List UInt8) (n : Nat) (hl : xs.length = n) (A B : Option Addr) (c d : Nat) (w : World) (hx : RB w w.heap.size A xs) (hy : RB w w.heap.size B xs) (hn : n ≤ 140737488351232) :
    Calls Try.prog 21 #[.slice A n c, .slice B n d] w fun e w' => e = .returned (.bool true) ∧ Below w.heap.size w w' := by
  subst hl
  exact (eqBytes xs A B c d w hx hy (by unfold maxLen; omega)).mono fun e w' h => ⟨h.1, below_of_drewN h.2⟩

theorem wakes10_bytes : parseOut (ipHead 1 2 6 64 0 0 ++ []) = (⟨1, 2, 6, 64, 0, []⟩, 0) := by
  have := parse_back ⟨1, 2, 6, 64, 0, []⟩ (by decide) []
  simpa [Pk.bytes] using this

set_option maxRecDepth 100000 in
set_option maxHeartbeats 1600000 in
theorem wakes10 (w : World) : Calls Try.prog 42 #[] w fun e w' => e = .returned (.bool true) ∧ Below w.heap.size w w' := by
  have K : Calls Try.prog 37 #[.agg #[.int .i64 1, .int .i64 2, .int .i64 6, .int .i64 64, .int .i64 0, .slice none 0 0]] w fun e w' => ∃ A' c', e = .returned (.tuple #[.slice A' 20 c', .int .i64 0]) ∧ w'.ownsRow w.heap.size 5 1 (.slice A' 20 c') 20 ((ipHead 1 2 6 64 0 0 ++ []).map bv) ∧ Below w.heap.size w w' :=
    ipBytes 1 2 6 64 0 [] 0 rfl none 0 (by decide) w RB.nil
  have HK := Lib.hid K
  have hf := Lib.hid wakes10_bytes
  clear K
  go_enter Try.func42, Try.ntmps42
  go_wp2_with fail
  (with_reducible refine HK.out.mono ?_)
  rintro e w1 ⟨A1, p1, rfl, hown1, hb1⟩
  have hr := RB.of_own (xs := ipHead 1 2 6 64 0 0 ++ []) hown1
  have hp1 : 20 ≤ p1 := by
    obtain ⟨_, _, hA, h, _⟩ := own_shape hown1
    injection hA with _ _ h2
    omega
  have KP := ipParse (ipHead 1 2 6 64 0 0 ++ []) 20 rfl A1 p1 hp1 w1 hr (by omega)
  rw [hf.out] at KP
  have HP := Lib.hid KP
  have hb1' := Lib.hid hb1
  clear KP hown1 hr HK hb1
  go_wp2_with fail
  (with_reducible refine HP.out.mono ?_)
  rintro e w2 ⟨A2, p2, he, hown2, hb2⟩
  have he' : e = .returned (.tuple #[.agg #[.int .i64 1, .int .i64 2, .int .i64 6, .int .i64 64, .int .i64 0, .slice A2 0 p2], .int .i64 0]) := he
  subst he'
  have hbb : Below w.heap.size w w2 := hb1'.out.trans (hb2.mono hb1'.out.size)
  clear he hown2 hb2 HP
  go_wp2_with fail
  (with_reducible refine (num10 0 _).mono ?_)
  rintro e w' ⟨rfl, rfl⟩
  go_wp2_with fail
  (with_reducible refine (num10 0 _).mono ?_)
  rintro e w' ⟨rfl, rfl⟩
  go_wp2
  go_ret
  exact ⟨rfl, hbb.alloc hbb.size _⟩

end Go.Proofs.Ytjdokaiadljeeaa
