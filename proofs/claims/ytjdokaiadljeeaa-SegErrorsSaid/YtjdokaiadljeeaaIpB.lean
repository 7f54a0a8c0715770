/-
  The walk of ip.Bytes.
-/
import Derived.Test.YtjdokaiadljeeaaIpW2
namespace Go.Proofs.Ytjdokaiadljeeaa
open Go.RowKit

/-- the six cells of a packet. -/
def PkAt (w : World) (g : Nat) (s d p t i : Int) (v : Value) : Prop :=
  w.cell? ⟨g, 0, none⟩ = some (.int .i64 s) ∧ w.cell? ⟨g, 1, none⟩ = some (.int .i64 d) ∧ w.cell? ⟨g, 2, none⟩ = some (.int .i64 p) ∧ w.cell? ⟨g, 3, none⟩ = some (.int .i64 t) ∧ w.cell? ⟨g, 4, none⟩ = some (.int .i64 i) ∧ w.cell? ⟨g, 5, none⟩ = some v
theorem PkAt.box (w : World) (s d p t i : Int) (v : Value) (T : TypeId) : PkAt (w.alloc (.cells #[.int .i64 s, .int .i64 d, .int .i64 p, .int .i64 t, .int .i64 i, v] T)) w.heap.size s d p t i v := by
  refine ⟨?_, ?_, ?_, ?_, ?_, ?_⟩ <;> rw [World.cell?_alloc_at _ _ _ _ rfl] <;> rfl
theorem PkAt.below {w w' : World} {B g : Nat} {s d p t i : Int} {v : Value} (h : PkAt w g s d p t i v) (hb : Below B w w') (hg : g < B) : PkAt w' g s d p t i v := by
  obtain ⟨c0, c1, c2, c3, c4, c5⟩ := h
  exact ⟨(hb.cell hg).trans c0, (hb.cell hg).trans c1, (hb.cell hg).trans c2, (hb.cell hg).trans c3, (hb.cell hg).trans c4, (hb.cell hg).trans c5⟩

theorem ipMayV (s d p t i : Int) (xs : List UInt8) (n : Nat) (hl : xs.length = n) (A : Option Addr) (c : Nat) (b : Bool) (h : Pk.ok ⟨s, d, p, t, i, xs⟩ = b) (w : World) :
    Calls Try.prog 60 #[.agg #[.int .i64 s, .int .i64 d, .int .i64 p, .int .i64 t, .int .i64 i, .slice A n c]] w fun e w' => e = .returned (.bool b) ∧ Below w.heap.size w w' := by
  subst h hl
  exact ipMay s d p t i xs.length c A _ _ _ _ _ rfl rfl rfl rfl rfl w
theorem refPacketV (s d p t i : Int) (xs : List UInt8) (n : Nat) (hl : xs.length = n) (A : Option Addr) (c : Nat) (b : Bool) (h : Pk.ok ⟨s, d, p, t, i, xs⟩ = b) (w : World) :
    Calls Try.prog 38 #[.agg #[.int .i64 s, .int .i64 d, .int .i64 p, .int .i64 t, .int .i64 i, .slice A n c]] w fun e w' => e = .returned (.bool b) ∧ Below w.heap.size w w' := by
  subst h hl
  exact refPacket s d p t i xs.length c A _ _ _ _ _ rfl rfl rfl rfl rfl w

theorem byte_n (n : Nat) (h : n ≤ 255) : (((UInt8.ofNat n).toNat : Nat) : Int) = (n : Int) := by
  rw [UInt8.toNat_ofNat']; omega
theorem lit4 (t p : Nat) (ht : t ≤ 255) (hp : p ≤ 255) : (#[Value.int .u8 (t : Int), .int .u8 (p : Int), .int .u8 0, .int .u8 0] : Array Value).toList = ([UInt8.ofNat t, UInt8.ofNat p, 0, 0] : List UInt8).map bv := by
  simp only [List.map, bv, byte_n t ht, byte_n p hp]
  rfl

set_option maxRecDepth 100000 in
set_option maxHeartbeats 1600000 in
theorem ipBytes_no (s d p t i : Int) (xs : List UInt8) (n : Nat) (hl : xs.length = n) (A : Option Addr) (c : Nat) (h : Pk.ok ⟨s, d, p, t, i, xs⟩ = false) (w : World) :
    Calls Try.prog 37 #[.agg #[.int .i64 s, .int .i64 d, .int .i64 p, .int .i64 t, .int .i64 i, .slice A n c]] w fun e w' => e = .returned (.tuple #[.slice none 0 0, .int .i64 1]) ∧ Below w.heap.size w w' := by
  have hb01 := (Below.refl w.heap.size w).alloc (Nat.le_refl _) (.cells #[.int .i64 s, .int .i64 d, .int .i64 p, .int .i64 t, .int .i64 i, .slice A n c] 53)
  go_enter Try.func37, Try.ntmps37
  go_wp2_with fail
  (with_reducible refine (ipMayV s d p t i xs n hl A c _ h _).mono ?_)
  rintro e w' ⟨rfl, hb⟩
  have hbb := hb01.trans (hb.mono hb01.size)
  clear hb hb01 h hl
  go_wp2
  go_ret2
  exact ⟨rfl, hbb⟩

theorem head0_eq (s d p t i n : Nat) : [0x45, 0] ++ big 2 (20 + n) ++ big 2 i ++ big 2 16384 ++ [UInt8.ofNat t, UInt8.ofNat p, 0, 0] ++ big 4 s ++ big 4 d = ipHead0 s d p t i n := by
  have e : big 2 16384 = [0x40, 0] := by decide
  rw [e]
  simp [ipHead0]

set_option maxRecDepth 100000 in
set_option maxHeartbeats 3200000 in
theorem ipBytes (s d p t i : Nat) (xs : List UInt8) (n : Nat) (hl : xs.length = n) (A : Option Addr) (c : Nat) (h : Pk.ok ⟨s, d, p, t, i, xs⟩ = true) (w : World) (hx : RB w w.heap.size A xs) :
    Calls Try.prog 37 #[.agg #[.int .i64 s, .int .i64 d, .int .i64 p, .int .i64 t, .int .i64 i, .slice A n c]] w fun e w' => ∃ A' c', e = .returned (.tuple #[.slice A' (20 + n) c', .int .i64 0]) ∧ w'.ownsRow w.heap.size 5 1 (.slice A' (20 + n) c') (20 + n) ((ipHead s d p t i n ++ xs).map bv) ∧ Below w.heap.size w w' := by
  obtain ⟨⟨_, hs⟩, ⟨_, hd⟩, ⟨_, hp⟩, ⟨_, ht⟩, ⟨_, hi⟩, hn⟩ := Pk.ok_iff.1 h
  simp only at hs hd hp ht hi hn
  have hb01 := (Below.refl w.heap.size w).alloc (Nat.le_refl _) (.cells #[.int .i64 s, .int .i64 d, .int .i64 p, .int .i64 t, .int .i64 i, .slice A n c] 53)
  have hp1 := PkAt.box w s d p t i (.slice A n c) 53
  have hx1 := hx.next hb01
  have hs1 : (w.alloc (.cells #[.int .i64 s, .int .i64 d, .int .i64 p, .int .i64 t, .int .i64 i, .slice A n c] 53)).heap.size = w.heap.size + 1 := World.size_alloc _ _
  have KM := Lib.hid (ipMayV s d p t i xs n hl A c _ h (w.alloc (.cells #[.int .i64 s, .int .i64 d, .int .i64 p, .int .i64 t, .int .i64 i, .slice A n c] 53)))
  have hl' := Lib.hid hl
  rw [hl] at hn
  clear h hx hl
  go_enter Try.func37, Try.ntmps37
  go_wp2_with fail
  (with_reducible refine KM.out.mono ?_)
  rintro e w2 ⟨rfl, hb12⟩
  clear KM
  generalize w.alloc (.cells #[.int .i64 s, .int .i64 d, .int .i64 p, .int .i64 t, .int .i64 i, .slice A n c] 53) = w1 at hb01 hp1 hx1 hs1 hb12
  have hp2 := hp1.below hb12 (by omega)
  have hx2 := hx1.next hb12
  have hb02 := hb01.trans (hb12.mono hb01.size)
  have hs2 : w.heap.size < w2.heap.size := by have := hb12.size; omega
  clear hp1 hx1 hb12 hb01 hs1
  obtain ⟨c0, c1, c2, c3, c4, c5⟩ := hp2
  have hp2 : PkAt w2 w.heap.size s d p t i (.slice A n c) := ⟨c0, c1, c2, c3, c4, c5⟩
  have hbL := (Below.refl w2.heap.size w2).alloc (Nat.le_refl _) (.cells #[.int .u8 69, .int .u8 0] 5)
  have hoL : (w2.alloc (.cells #[.int .u8 69, .int .u8 0] 5)).ownsRow w2.heap.size 5 1 (.slice (some ⟨w2.heap.size, 0, none⟩) 2 2) 2 (([0x45, 0] : List UInt8).map bv) :=
    World.ownsRow_lit w2 #[.int .u8 69, .int .u8 0] 2 (Nat.le_refl _) (by decide) rfl
  have K1 := Lib.hid (sumPut w2.heap.size w2.heap.size w2 [0x45, 0] 2 rfl (some ⟨w2.heap.size, 0, none⟩) 2 2 (20 + (n : Int)) 2 (20 + n) rfl (by omega) (by omega) (by omega) _ hoL hbL (Nat.le_refl _) hbL.size (by omega))
  clear hbL hoL
  go_wp2_with fail
  (with_reducible refine K1.out.mono ?_)
  rintro e w3 ⟨A3, p3, rfl, hown3, hb3, hs3⟩
  clear K1 c0 c1 c2 c3 c4 c5
  have hp3 := hp2.below hb3 hs2
  obtain ⟨c0, c1, c2, c3, c4, c5⟩ := hp3
  go_wp2_with fail
  ((with_reducible refine (sumPut w2.heap.size w2.heap.size w2 ([0x45, 0] ++ big 2 (20 + n)) 4 rfl A3 p3 2 (i : Int) 2 i rfl rfl (by omega) (by omega) w3 hown3 hb3 (Nat.le_refl _) hs3 (by omega)).mono ?_))
  rintro e w4 ⟨A4, p4, rfl, hown4, hb4, hs4⟩
  clear hown3 hb3 hs3 c0 c1 c2 c3 c4 c5
  go_wp2_with fail
  ((with_reducible refine (sumPut w2.heap.size w2.heap.size w2 ([0x45, 0] ++ big 2 (20 + n) ++ big 2 i) 6 rfl A4 p4 2 16384 2 16384 rfl rfl (by omega) (by omega) w4 hown4 hb4 (Nat.le_refl _) hs4 (by omega)).mono ?_))
  rintro e w5 ⟨A5, p5, rfl, hown5, hb5, hs5⟩
  clear hown4 hb4 hs4
  have hp5 := hp2.below hb5 hs2
  obtain ⟨c0, c1, c2, c3, c4, c5⟩ := hp5
  have hbL := hb5.alloc hs5 (.cells #[.int .u8 (t : Int), .int .u8 (p : Int), .int .u8 0, .int .u8 0] 5)
  have hoL := Lib.hid (own_below hown5 ((Below.refl w5.heap.size w5).alloc (Nat.le_refl _) (.cells #[.int .u8 (t : Int), .int .u8 (p : Int), .int .u8 0, .int .u8 0] 5)))
  have hrL := Lib.hid (RB.lit w5 5 #[.int .u8 (t : Int), .int .u8 (p : Int), .int .u8 0, .int .u8 0] (0, 0) [UInt8.ofNat t, UInt8.ofNat p, 0, 0] (lit4 t p (by omega) (by omega)))
  have hbL' := Lib.hid hbL
  clear hown5 hb5 hbL
  go_wp2_with (at_builtin; refine wpList_append_bytes w2.heap.size hbL'.out rfl _ _ 24 rfl w2.heap.size 5 Try.underlying24 info_u8 _ _ ([0x45, 0] ++ big 2 (20 + n) ++ big 2 i ++ big 2 16384) (by exact rfl) hoL.out (some ⟨w5.heap.size, 0, none⟩) 4 4 [UInt8.ofNat t, UInt8.ofNat p, 0, 0] rfl (by exact rfl) hrL.out (by omega) (by simp; omega) (Nat.le_refl _) ?_; intro A6 p6 w6 hown6 hb6)
  clear c0 c1 c2 c3 c4 c5 hoL hrL hbL'
  have hown6' : w6.ownsRow w2.heap.size 5 1 (.slice A6 12 p6) 12 (([0x45, 0] ++ big 2 (20 + n) ++ big 2 i ++ big 2 16384 ++ [UInt8.ofNat t, UInt8.ofNat p, 0, 0]).map bv) := hown6
  have hs6 : w2.heap.size ≤ w6.heap.size := hb6.size
  obtain ⟨c0, c1, c2, c3, c4, c5⟩ := hp2.below hb6 hs2
  have HO6 := Lib.hid hown6'
  have HB6 := Lib.hid hb6
  clear hown6 hown6' hb6
  have K1 := Lib.hid (sumPut w2.heap.size w2.heap.size w2 ([0x45, 0] ++ big 2 (20 + n) ++ big 2 i ++ big 2 16384 ++ [UInt8.ofNat t, UInt8.ofNat p, 0, 0]) 12 (by simp [big_length]) A6 p6 4 (s : Int) 4 s rfl rfl (by omega) (by omega) w6.drew HO6.out.drew HB6.out.drew (Nat.le_refl _) hs6 (by omega))
  have K2 := Lib.hid (fun A7 p7 (w7 : World) hown7 hb7 hs7 => sumPut w2.heap.size w2.heap.size w2 ([0x45, 0] ++ big 2 (20 + n) ++ big 2 i ++ big 2 16384 ++ [UInt8.ofNat t, UInt8.ofNat p, 0, 0] ++ big 4 s) 16 (by simp [big_length]) A7 p7 4 (d : Int) 4 d rfl rfl (by omega) (by omega) w7 hown7 hb7 (Nat.le_refl _) hs7 (by omega))
  go_region_law (first
    | (go_simp; go_at_call 61; (with_reducible refine K1.out.mono ?_); rintro e w7 ⟨A7, p7, rfl, hown7, hb7, hs7⟩; obtain ⟨d0, d1, d2, d3, d4, d5⟩ := hp2.below hb7 hs2)
    | (go_simp; go_at_call 61; (with_reducible refine (K2.out A7 p7 w7 hown7 hb7 hs7).mono ?_); rintro e w8 ⟨A8, p8, rfl, hown8, hb8, hs8⟩; obtain ⟨e0, e1, e2, e3, e4, e5⟩ := hp2.below hb8 hs2))
  all_goals
    clear c0 c1 c2 c3 c4 c5 d0 d1 d2 d3 d4 d5 e0 e1 e2 e3 e4 e5 K1 K2 hown7 hb7 hs7 HO6 HB6
    have hown8' : w8.ownsRow w2.heap.size 5 1 (.slice A8 20 p8) 20 ((ipHead0 s d p t i n).map bv) := by rw [← head0_eq]; exact hown8
    clear hown8
    obtain ⟨g, rfl, hg, hg2⟩ := own_form hown8' (by omega)
    obtain ⟨hl8, hr8⟩ := own_read hown8'
    have hcl := Sm.check_le (ipHead0 s d p t i n)
    have HH := Lib.hid (show ((ipHead0 s d p t i n).set 10 (UInt8.ofNat (Sm.check (ipHead0 s d p t i n) / 256))).set (10 + 1) (UInt8.ofNat (Sm.check (ipHead0 s d p t i n))) = ipHead s d p t i n from rfl)
    have K3 := Lib.hid (sumCheck (ipHead0 s d p t i n) 20 hl8 (some ⟨g, 0, none⟩) p8 w8 hr8 (by omega))
    have K4 := Lib.hid (sumSet g 20 p8 w2.heap.size (ipHead0 s d p t i n) 10 (Sm.check (ipHead0 s d p t i n)) 10 (Sm.check (ipHead0 s d p t i n)) rfl rfl w8 hown8' (by omega) hcl (by omega))
    generalize Sm.check (ipHead0 s d p t i n) = z at hcl HH K3 K4
    clear hown8' hl8 hr8
    go_wp2_with fail
    (with_reducible refine K3.out.mono ?_)
    rintro e w' ⟨rfl, rfl⟩
    go_wp2_with fail
    (with_reducible refine K4.out.mono ?_)
    rintro e w9 ⟨rfl, hown9, hO⟩
    clear K3 K4
    have hb9 := Lib.hid (hO.below _ _ hb8 hg)
    have hx9 := Lib.hid (hx2.next hb9.out)
    have hs9 : w2.heap.size ≤ w9.heap.size := hb9.out.size
    obtain ⟨c0, c1, c2, c3, c4, c5⟩ := hp2.below hb9.out hs2
    have HO9 := Lib.hid hown9
    clear hown9 hO hb8
    go_wp2_with (at_builtin; refine wpList_append_bytes w2.heap.size hb9.out rfl _ _ 24 rfl w2.heap.size 5 Try.underlying24 info_u8 _ _ _ (by exact rfl) HO9.out A n c xs hl'.out (by exact rfl) hx9.out (by omega) hs9 (Nat.le_refl _) ?_; intro A10 p10 w10 hown10 hb10)
    go_ret2
    refine ⟨A10, p10, rfl, ?_, hb02.trans (hb10.mono hb02.size)⟩
    rw [HH.out] at hown10
    exact own_base hown10 hb02.size

end Go.Proofs.Ytjdokaiadljeeaa
