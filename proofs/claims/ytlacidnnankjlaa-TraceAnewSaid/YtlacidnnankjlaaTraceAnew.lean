/-
  PROVED: 'A first segment begins it anew; what was said ahead of it counts no more; what is for another port, or place, never counts; a reset ends it' (kiosklaw27.TraceAnew). CONDITIONS: none; for every argument.
-/
import Derived.Test.YtlacidnnankjlaaTq3
namespace Go.Proofs.Ytlacidnnankjlaa
open Go.ChangeShapes Go.WideShapes Go.ChangeAt Go.RowKit Go.Deep

theorem num27 (u : Int) (w : World) : Calls Try.prog 7 #[.int .i64 u] w fun e w' => e = .returned (.int .i64 u) ∧ w = w' := by
  go_enter Try.func7, Try.ntmps7
  refine Has.start 4 [(0, .int .i64 u)] rfl rfl ⟨rfl, trivial⟩ ?_
  intro a0 H0
  refine H0.rg 1 fun a H => nt ?_
  refine H.rg 2 fun a H => nt (wp_ret ?_)
  repeat (first | (with_reducible refine block_ret ?_) | (with_reducible refine then_ret ?_))
  exact bodyPost_ret (results_tmp rfl _ _ _) H.df ⟨congrArg Ending.returned (H.at_ 2 _ rfl), rfl⟩
theorem frame27F (d port sq fl : Nat) (xs : List UInt8) (A : Option Addr) (c : Nat) (hq : Sg.ok (sg27 port sq fl xs) = true) (hd : d < 4294967296) (w : World) (hx : RB w w.heap.size A xs) :
    Calls Try.prog 4 #[.int .i64 (d : Int), .int .i64 (port : Int), .agg ([.int .i64 0, .int .i64 0, .int .i64 (sq : Int), .int .i64 0, .int .i64 (fl : Int), .int .i64 0, .slice A xs.length c] : List Value).toArray] w fun e w' => ∃ v, e = .returned v ∧ ∃ A' n' c', v = .slice A' n' c' ∧ FrIs w.heap.size (fr27 d port sq fl xs) (.slice A' n' c') w' ∧ Below w.heap.size w w' :=
  (frame27 d port sq 0 fl 0 0 0 xs A c hq hd w hx).mono fun _ _ ⟨v, h1, h2, h3⟩ => by
    obtain ⟨A', n', c', rfl, h4⟩ := (FrIs.of h2).shape
    exact ⟨_, h1, A', n', c', rfl, h4, h3⟩
set_option maxRecDepth 100000 in
set_option maxHeartbeats 3200000 in
theorem wakes27 (w : World) : Calls Try.prog 8 #[] w fun e w' => e = .returned (.bool true) ∧ Below w.heap.size w w' := by
  go_enter Try.func8, Try.ntmps8
  refine Has.start 27 [] rfl rfl trivial ?_
  intro a0 H0
  refine H0.rg 1 fun a H => nt ?_
  refine H.rg 0 fun a H => ?_
  refine H.any (w' := w) gz rfl rfl (.agg ([.int .i64 0, .int .i64 0, .int .i64 ((9 : Nat) : Int), .int .i64 ((0 : Nat) : Int), .int .i64 ((18 : Nat) : Int), .int .i64 ((0 : Nat) : Int), .slice none ([] : List UInt8).length 0] : List Value).toArray) (by intro cs b h; cases h) (by kernel_rfl) (by kernel_rfl) fun a H => ?_
  refine H.cl (frame27F 5 6 (9) 18 [] none 0 (sg27_ok (port := 6) (sq := 9) (fl := 18) (xs := []) (by decide) (by decide) (by decide) (by decide)) (by decide) w (Reads.none_)) ?_
  rintro a _ x1 ⟨Ax1, nx1, cx1, rfl, hfx1, hbx1⟩ H
  have hbbx1 : Below w.heap.size w x1 := (Below.refl w.heap.size w).trans (hbx1.mono (Below.refl w.heap.size w).size)
  replace hfx1 := hfx1.base (b' := 0) (Nat.zero_le _)
  refine H.bytes gz rfl rfl [192] [.int .u8 192] rfl rfl 5 (by intro cs b h; cases h) (by kernel_rfl) (by kernel_rfl) ?_
  rintro a _ x2 H ⟨Ax2, cx2, rfl, hrx2⟩ hbx2
  replace hfx1 := hfx1.next hbx2
  have hbbx2 : Below w.heap.size w x2 := hbbx1.trans (hbx2.mono hbbx1.size)
  refine H.any (w' := x2) gz rfl rfl (.agg ([.int .i64 0, .int .i64 0, .int .i64 ((10 : Nat) : Int), .int .i64 ((0 : Nat) : Int), .int .i64 ((16 : Nat) : Int), .int .i64 ((0 : Nat) : Int), .slice Ax2 ([192] : List UInt8).length cx2] : List Value).toArray) (by intro cs b h; cases h) (by kernel_rfl) (by kernel_rfl) fun a H => ?_
  refine H.cl (frame27F 5 6 (10) 16 [192] Ax2 cx2 (sg27_ok (port := 6) (sq := 10) (fl := 16) (xs := [192]) (by decide) (by decide) (by decide) (by decide)) (by decide) x2 hrx2) ?_
  rintro a _ x3 ⟨Ax3, nx3, cx3, rfl, hfx3, hbx3⟩ H
  replace hfx1 := hfx1.next hbx3
  have hbbx3 : Below w.heap.size w x3 := hbbx2.trans (hbx3.mono hbbx2.size)
  replace hfx3 := hfx3.base (b' := 0) (Nat.zero_le _)
  have hrwx4 : FrRow x3.heap.size [(.slice Ax1 nx1 cx1, fr27 5 6 (9) 18 []), (.slice Ax3 nx3 cx3, fr27 5 6 (10) 16 [192])] (.slice (some ⟨x3.heap.size, 0, none⟩) 2 2) (x3.alloc (.cells ([.slice Ax1 nx1 cx1, .slice Ax3 nx3 cx3] : List Value).toArray 27)) := FrRow.lit (b := 0) (fr_cons hfx1 (fr_cons hfx3 fr_nil)) (by show 2 ≤ 9223372036854775807; decide)
  refine H.any (w' := x3.alloc (.cells ([.slice Ax1 nx1 cx1, .slice Ax3 nx3 cx3] : List Value).toArray 27)) gz rfl rfl (.slice (some ⟨x3.heap.size, 0, none⟩) 2 2) (by intro cs b h; cases h) (by kernel_rfl) (by kernel_rfl) fun a H => ?_
  have hbx4 : Below x3.heap.size x3 (x3.alloc (.cells ([.slice Ax1 nx1 cx1, .slice Ax3 nx3 cx3] : List Value).toArray 27)) := balloc _ _
  have hrdx4 := Reads.lit x3 27 [.slice Ax1 nx1 cx1, .slice Ax3 nx3 cx3] (0, 0) 1 2 rfl
  generalize x3.alloc (.cells ([.slice Ax1 nx1 cx1, .slice Ax3 nx3 cx3] : List Value).toArray 27) = x4 at *
  replace hfx1 := hfx1.next hbx4
  replace hfx3 := hfx3.next hbx4
  have hbbx4 : Below w.heap.size w x4 := hbbx3.trans (hbx4.mono hbbx3.size)
  refine H.cl (traceStream fsW27 _ 2 5 6 (by decide) (by decide) x4 hrwx4.at_ (by decide) fsW27_len) ?_
  rintro a _ w9 ⟨x, A9, c9, rfl, hh, _, hO9, hb9⟩ H
  obtain ⟨hxb, hov⟩ := anewW hh
  rw [hxb] at hO9 H; rw [hov] at H
  have hbw := hbbx4.trans (hb9.mono hbbx4.size)
  refine H.ms 1 fun a H => ?_
  refine H.ex (r := .slice A9 1 c9) 0 fun a H => ?_
  refine H.ex (r := .bool false) 0 fun a H => ?_
  refine H.ex (r := .int .i64 0) 3 fun a H => nt ?_
  have hr9 : RB w9 w9.heap.size A9 [192] := rb_of_own rfl hO9 hb9.size
  replace H := H.keep (l' := [(1, .slice A9 1 c9), (2, .bool false), (3, .int .i64 0)]) ⟨rfl, rfl, rfl, trivial⟩
  refine H.rg 1 fun a H => ?_
  refine H.cq 0 (num27 0 w9) fun a H => ?_
  refine H.bn 1 (eql_iB 0 0 true rfl _ _ _) fun a H => ?_
  refine H.go (H.wt rfl rfl rfl) rfl rfl _ (run_move (.inl rfl) (H.ev rfl)) fun a H => ?_
  refine H.un (H.wt rfl rfl rfl) rfl rfl rfl rfl (run_not false _) fun a H => ?_
  refine H.pick gz rfl rfl rfl rfl rfl fun a H => ?_
  refine H.ms 1 fun a H => ?_
  refine H.go (H.wt rfl rfl rfl) rfl rfl _ (run_move (.inl rfl) (H.ev rfl)) fun a H => ?_
  refine H.bytes (H.wt rfl rfl rfl) rfl rfl [192] [.int .u8 192] rfl rfl 5 (by intro cs b h; cases h) (by kernel_rfl) (by kernel_rfl) ?_
  rintro a _ w10 H ⟨A10, c10, rfl, hr10⟩ hb10
  refine H.call (H.wt rfl rfl rfl) rfl rfl rfl rfl (fun _ _ => by kernel_rfl) (belowC (eqBytesN [192] 1 rfl A9 A10 c9 c10 w10 (hr9.next hb10) hr10 (by decide))) ?_
  rintro a _ w11 ⟨rfl, hb11⟩ H
  refine H.pick gz rfl rfl rfl rfl rfl fun a H => ?_
  refine H.ms 1 fun a H => nt (wp_ret ?_)
  repeat (first | (with_reducible refine block_ret ?_) | (with_reducible refine then_ret ?_))
  exact bodyPost_ret (results_tmp rfl _ _ _) H.df ⟨congrArg Ending.returned (H.at_ 0 _ rfl), hbw.trans ((hb10.trans (hb11.mono hb10.size)).mono hbw.size)⟩
set_option maxRecDepth 100000 in
set_option maxHeartbeats 6400000 in
theorem traceAnew_walk (kL kW : Value) (size sq : Int) (w : World) : Calls Try.prog 3 #[.agg ([kL, .int .i64 size, kW, .int .i64 sq] : List Value).toArray] w fun e w' => e = .returned (.bool true) ∧ Below w.heap.size w w' := by
  go_enter Try.func3, Try.ntmps3
  refine Has.start 121 [(0, .agg ([kL, .int .i64 size, kW, .int .i64 sq] : List Value).toArray)] rfl rfl ⟨rfl, trivial⟩ ?_
  intro a0 H0
  refine rl ?_
  refine H0.bx (Own.start w) 1 (L := [kL, .int .i64 size, kW, .int .i64 sq]) fun a w1 O1 H => nt ?_
  have hbb1 := O1.bel
  obtain ⟨s, hse⟩ : ∃ s : Nat, sq % 4294967296 = (s : Int) := ⟨(sq % 4294967296).toNat, by omega⟩
  have hs : s ≤ 4294967295 := by omega
  refine H.rg 1 fun a H => ?_
  refine H.ld 0 (O1.li 0 3) fun a H => ?_
  refine H.cv 0 (conv_32 sq w1) fun a H => ?_
  refine H.cv 1 (conv_23 (sq % 4294967296) (by omega) (by omega) w1) fun a H => nt ?_
  rw [hse] at H
  replace H := H.keep (l' := [(3, .int .i64 (s : Int))]) ⟨rfl, trivial⟩
  clear O1 H0
  refine rl ?_
  refine H.cs [97, 104, 101, 97, 100] [.int .u8 97, .int .u8 104, .int .u8 101, .int .u8 97, .int .u8 100] rfl 5 rfl fun a Ay1 y1 H hry1 hby1 => ?_
  have hbby1 : Below w.heap.size w y1 := hbb1.trans (hby1.mono hbb1.size)
  refine H.any (w' := y1) gz rfl rfl (.agg ([.int .i64 0, .int .i64 0, .int .i64 ((1 : Nat) : Int), .int .i64 ((0 : Nat) : Int), .int .i64 ((16 : Nat) : Int), .int .i64 ((0 : Nat) : Int), .slice Ay1 ([97, 104, 101, 97, 100] : List UInt8).length 5] : List Value).toArray) (by intro cs b h; cases h) (by kernel_rfl) (by kernel_rfl) fun a H => ?_
  refine H.cl (frame27F 5 6 (1) 16 [97, 104, 101, 97, 100] Ay1 5 (sg27_ok (port := 6) (sq := 1) (fl := 16) (xs := [97, 104, 101, 97, 100]) (by decide) (by decide) (by decide) (by decide)) (by decide) y1 hry1) ?_
  rintro a _ y2 ⟨Ay2, ny2, cy2, rfl, hfy2, hby2⟩ H
  have hbby2 : Below w.heap.size w y2 := hbby1.trans (hby2.mono hbby1.size)
  replace hfy2 := hfy2.base (b' := 0) (Nat.zero_le _)
  refine H.ms 1 fun a H => ?_
  refine H.any (w' := y2) gz rfl rfl (.agg ([.int .i64 0, .int .i64 0, .int .i64 ((s : Nat) : Int), .int .i64 ((0 : Nat) : Int), .int .i64 ((18 : Nat) : Int), .int .i64 ((0 : Nat) : Int), .slice none ([] : List UInt8).length 0] : List Value).toArray) (by intro cs b h; cases h) (by kernel_rfl) (by kernel_rfl) fun a H => ?_
  refine H.cl (frame27F 5 6 (s) 18 [] none 0 (sg27_ok (port := 6) (sq := s) (fl := 18) (xs := []) (by decide) (hs) (by decide) (by decide)) (by decide) y2 (Reads.none_)) ?_
  rintro a _ y3 ⟨Ay3, ny3, cy3, rfl, hfy3, hby3⟩ H
  replace hfy2 := hfy2.next hby3
  have hbby3 : Below w.heap.size w y3 := hbby2.trans (hby3.mono hbby2.size)
  replace hfy3 := hfy3.base (b' := 0) (Nat.zero_le _)
  refine H.ms 1 fun a H => ?_
  refine H.cq 0 (pageAdd s 1 y3) fun a H => ?_
  refine H.cs [111, 110, 101] [.int .u8 111, .int .u8 110, .int .u8 101] rfl 3 rfl fun a Ay4 y4 H hry4 hby4 => ?_
  replace hfy2 := hfy2.next hby4
  replace hfy3 := hfy3.next hby4
  have hbby4 : Below w.heap.size w y4 := hbby3.trans (hby4.mono hbby3.size)
  refine H.any (w' := y4) gz rfl rfl (.agg ([.int .i64 0, .int .i64 0, .int .i64 ((spAdd s 1 : Nat) : Int), .int .i64 ((0 : Nat) : Int), .int .i64 ((16 : Nat) : Int), .int .i64 ((0 : Nat) : Int), .slice Ay4 ([111, 110, 101] : List UInt8).length 3] : List Value).toArray) (by intro cs b h; cases h) (by kernel_rfl) (by kernel_rfl) fun a H => ?_
  refine H.cl (frame27F 5 6 (spAdd s 1) 16 [111, 110, 101] Ay4 3 (sg27_ok (port := 6) (sq := spAdd s 1) (fl := 16) (xs := [111, 110, 101]) (by decide) (Nat.le_of_lt_succ (spAdd_lt s 1)) (by decide) (by decide)) (by decide) y4 hry4) ?_
  rintro a _ y5 ⟨Ay5, ny5, cy5, rfl, hfy5, hby5⟩ H
  replace hfy2 := hfy2.next hby5
  replace hfy3 := hfy3.next hby5
  have hbby5 : Below w.heap.size w y5 := hbby4.trans (hby5.mono hbby4.size)
  replace hfy5 := hfy5.base (b' := 0) (Nat.zero_le _)
  refine H.ms 1 fun a H => ?_
  refine H.cq 0 (pageAdd s 4 y5) fun a H => ?_
  refine H.cs [120] [.int .u8 120] rfl 1 rfl fun a Ay6 y6 H hry6 hby6 => ?_
  replace hfy2 := hfy2.next hby6
  replace hfy3 := hfy3.next hby6
  replace hfy5 := hfy5.next hby6
  have hbby6 : Below w.heap.size w y6 := hbby5.trans (hby6.mono hbby5.size)
  refine H.any (w' := y6) gz rfl rfl (.agg ([.int .i64 0, .int .i64 0, .int .i64 ((spAdd s 4 : Nat) : Int), .int .i64 ((0 : Nat) : Int), .int .i64 ((16 : Nat) : Int), .int .i64 ((0 : Nat) : Int), .slice Ay6 ([120] : List UInt8).length 1] : List Value).toArray) (by intro cs b h; cases h) (by kernel_rfl) (by kernel_rfl) fun a H => ?_
  refine H.cl (frame27F 5 7 (spAdd s 4) 16 [120] Ay6 1 (sg27_ok (port := 7) (sq := spAdd s 4) (fl := 16) (xs := [120]) (by decide) (Nat.le_of_lt_succ (spAdd_lt s 4)) (by decide) (by decide)) (by decide) y6 hry6) ?_
  rintro a _ y7 ⟨Ay7, ny7, cy7, rfl, hfy7, hby7⟩ H
  replace hfy2 := hfy2.next hby7
  replace hfy3 := hfy3.next hby7
  replace hfy5 := hfy5.next hby7
  have hbby7 : Below w.heap.size w y7 := hbby6.trans (hby7.mono hbby6.size)
  replace hfy7 := hfy7.base (b' := 0) (Nat.zero_le _)
  refine H.ms 1 fun a H => ?_
  refine H.cq 0 (pageAdd s 4 y7) fun a H => ?_
  refine H.any (w' := y7) gz rfl rfl (.agg ([.int .i64 0, .int .i64 0, .int .i64 ((spAdd s 4 : Nat) : Int), .int .i64 ((0 : Nat) : Int), .int .i64 ((4 : Nat) : Int), .int .i64 ((0 : Nat) : Int), .slice none ([] : List UInt8).length 0] : List Value).toArray) (by intro cs b h; cases h) (by kernel_rfl) (by kernel_rfl) fun a H => ?_
  refine H.cl (frame27F 4 6 (spAdd s 4) 4 [] none 0 (sg27_ok (port := 6) (sq := spAdd s 4) (fl := 4) (xs := []) (by decide) (Nat.le_of_lt_succ (spAdd_lt s 4)) (by decide) (by decide)) (by decide) y7 (Reads.none_)) ?_
  rintro a _ y8 ⟨Ay8, ny8, cy8, rfl, hfy8, hby8⟩ H
  replace hfy2 := hfy2.next hby8
  replace hfy3 := hfy3.next hby8
  replace hfy5 := hfy5.next hby8
  replace hfy7 := hfy7.next hby8
  have hbby8 : Below w.heap.size w y8 := hbby7.trans (hby8.mono hbby7.size)
  replace hfy8 := hfy8.base (b' := 0) (Nat.zero_le _)
  have hrwy9 : FrRow y8.heap.size [(.slice Ay2 ny2 cy2, fr27 5 6 (1) 16 [97, 104, 101, 97, 100]), (.slice Ay3 ny3 cy3, fr27 5 6 (s) 18 []), (.slice Ay5 ny5 cy5, fr27 5 6 (spAdd s 1) 16 [111, 110, 101]), (.slice Ay7 ny7 cy7, fr27 5 7 (spAdd s 4) 16 [120]), (.slice Ay8 ny8 cy8, fr27 4 6 (spAdd s 4) 4 [])] (.slice (some ⟨y8.heap.size, 0, none⟩) 5 5) (y8.alloc (.cells ([.slice Ay2 ny2 cy2, .slice Ay3 ny3 cy3, .slice Ay5 ny5 cy5, .slice Ay7 ny7 cy7, .slice Ay8 ny8 cy8] : List Value).toArray 27)) := FrRow.lit (b := 0) (fr_cons hfy2 (fr_cons hfy3 (fr_cons hfy5 (fr_cons hfy7 (fr_cons hfy8 fr_nil))))) (by show 5 ≤ 9223372036854775807; decide)
  refine H.any (w' := y8.alloc (.cells ([.slice Ay2 ny2 cy2, .slice Ay3 ny3 cy3, .slice Ay5 ny5 cy5, .slice Ay7 ny7 cy7, .slice Ay8 ny8 cy8] : List Value).toArray 27)) gz rfl rfl (.slice (some ⟨y8.heap.size, 0, none⟩) 5 5) (by intro cs b h; cases h) (by kernel_rfl) (by kernel_rfl) fun a H => ?_
  have hby9 : Below y8.heap.size y8 (y8.alloc (.cells ([.slice Ay2 ny2 cy2, .slice Ay3 ny3 cy3, .slice Ay5 ny5 cy5, .slice Ay7 ny7 cy7, .slice Ay8 ny8 cy8] : List Value).toArray 27)) := balloc _ _
  have hrdy9 := Reads.lit y8 27 [.slice Ay2 ny2 cy2, .slice Ay3 ny3 cy3, .slice Ay5 ny5 cy5, .slice Ay7 ny7 cy7, .slice Ay8 ny8 cy8] (0, 0) 1 5 rfl
  generalize y8.alloc (.cells ([.slice Ay2 ny2 cy2, .slice Ay3 ny3 cy3, .slice Ay5 ny5 cy5, .slice Ay7 ny7 cy7, .slice Ay8 ny8 cy8] : List Value).toArray 27) = y9 at *
  replace hfy2 := hfy2.next hby9
  replace hfy3 := hfy3.next hby9
  replace hfy5 := hfy5.next hby9
  replace hfy7 := hfy7.next hby9
  replace hfy8 := hfy8.next hby9
  have hbby9 : Below w.heap.size w y9 := hbby8.trans (hby9.mono hbby8.size)
  refine H.ms 1 fun a H => nt ?_
  clear hfy2 hfy3 hfy5 hfy7 hfy8
  obtain ⟨g4, hg4⟩ : ∃ g4, y8.heap.size = g4 := ⟨_, rfl⟩
  rw [hg4] at H hrwy9
  have hbg4 : w.heap.size ≤ g4 := by rw [← hg4]; exact hbby8.size
  refine H.rg 1 fun a H => ?_
  refine H.cl (traceStream (fs27 s) _ 5 5 6 (by decide) (by decide) y9 hrwy9.at_ (by show 5 ≤ _; decide) (fs27_len s)) ?_
  rintro a _ y10 ⟨xy10, A5q, c5q, rfl, hhy10, _, hOy10, hby10⟩ H
  obtain ⟨hxby10, hovy10⟩ := anew1 hs hhy10
  rw [hxby10] at hOy10 H; rw [hovy10] at H
  refine H.ms 1 fun a H => ?_
  refine H.ex (r := .slice A5q 3 c5q) 0 fun a H => ?_
  refine H.ex (r := .bool false) 0 fun a H => ?_
  refine H.ex (r := .int .i64 0) 3 fun a H => nt ?_
  replace hrwy9 := hrwy9.next hby10
  have hbby10 : Below w.heap.size w y10 := hbby9.trans (hby10.mono hbby9.size)
  have hr5 : RowIs w.heap.size [111, 110, 101] (.slice A5q 3 c5q) y10 := RowIs.of rfl (own_base hOy10 hbby9.size)
  replace H := H.keep (l' := [(3, .int .i64 (s : Int)), (4, .slice (some ⟨g4, 0, none⟩) 5 5), (5, .slice A5q 3 c5q), (6, .bool false), (7, .int .i64 0)]) ⟨rfl, rfl, rfl, rfl, rfl, trivial⟩
  refine H.rg 2 fun a H => ?_
  refine H.cq 0 (pageAdd s 4 y10) fun a H => ?_
  obtain ⟨b5, hb5⟩ : ∃ b5, y10.heap.size = b5 := ⟨_, rfl⟩
  have hszb5 : b5 ≤ y10.heap.size := by rw [hb5]; exact Nat.le_refl _
  have hneb5 : ∀ k, b5 ≤ k → some k ≠ (.slice (some ⟨g4, 0, none⟩) 5 5 : Value).ownBlock := fun k hk => own_ne hrwy9.1 (.inr (by rw [hb5]; exact hk))
  refine H.any (w' := y10) gz rfl rfl (.agg ([.int .i64 0, .int .i64 0, .int .i64 ((spAdd s 4 : Nat) : Int), .int .i64 ((0 : Nat) : Int), .int .i64 ((20 : Nat) : Int), .int .i64 ((0 : Nat) : Int), .slice none ([] : List UInt8).length 0] : List Value).toArray) (by intro cs b h; cases h) (by kernel_rfl) (by kernel_rfl) fun a H => ?_
  refine H.cl (frame27F 5 6 (spAdd s 4) 20 [] none 0 (sg27_ok (port := 6) (sq := spAdd s 4) (fl := 20) (xs := []) (by decide) (Nat.le_of_lt_succ (spAdd_lt s 4)) (by decide) (by decide)) (by decide) y10 (Reads.none_)) ?_
  rintro a _ y11 ⟨Ay11, ny11, cy11, rfl, hfy11, hby11⟩ H
  replace hrwy9 := hrwy9.next hby11
  replace hr5 := hr5.next hby11
  have hbby11 : Below w.heap.size w y11 := hbby10.trans (hby11.mono hbby10.size)
  have hszy11 := Nat.le_trans hszb5 hby11.size
  replace hfy11 := hfy11.base (b' := b5) hszb5
  have hrwy12 : FrRow y11.heap.size [(.slice Ay11 ny11 cy11, fr27 5 6 (spAdd s 4) 20 [])] (.slice (some ⟨y11.heap.size, 0, none⟩) 1 1) (y11.alloc (.cells ([.slice Ay11 ny11 cy11] : List Value).toArray 27)) := FrRow.lit (b := b5) (fr_cons hfy11 fr_nil) (by show 1 ≤ 9223372036854775807; decide)
  refine H.any (w' := y11.alloc (.cells ([.slice Ay11 ny11 cy11] : List Value).toArray 27)) gz rfl rfl (.slice (some ⟨y11.heap.size, 0, none⟩) 1 1) (by intro cs b h; cases h) (by kernel_rfl) (by kernel_rfl) fun a H => ?_
  have hby12 : Below y11.heap.size y11 (y11.alloc (.cells ([.slice Ay11 ny11 cy11] : List Value).toArray 27)) := balloc _ _
  have hrdy12 := Reads.lit y11 27 [.slice Ay11 ny11 cy11] (0, 0) 1 1 rfl
  generalize y11.alloc (.cells ([.slice Ay11 ny11 cy11] : List Value).toArray 27) = y12 at *
  replace hfy11 := hfy11.next hby12
  replace hrwy9 := hrwy9.next hby12
  replace hr5 := hr5.next hby12
  have hbby12 : Below w.heap.size w y12 := hbby11.trans (hby12.mono hbby11.size)
  have hszy12 := Nat.le_trans hszy11 hby12.size
  obtain ⟨gb5, hgb5⟩ : ∃ g6, y11.heap.size = g6 := ⟨_, rfl⟩
  rw [hgb5] at H hrdy12
  refine H.appF hrwy9.1 info_bs hrdy12 (by intro u hu; simp only [List.mem_cons, List.not_mem_nil, or_false] at hu; rcases hu with rfl <;> rfl) (by show 6 ≤ 9223372036854775807; decide) (by show 6 * 24 ≤ _; decide) (hrwy9.le (Nat.succ_pos _)) fun a Ay13 cy13 y13 hOy13 hgy13 hfry13 H => ?_
  replace hr5 := hr5.past hrwy9.1 hgy13
  have hbby13 : Below w.heap.size w y13 := hbby12.grown hgy13 hbby12.size fun k hk => Nat.le_trans hbg4 (hrwy9.1.lt k hk).1
  replace hrwy9 := FrRow.app hrwy9 (fr_cons hfy11 fr_nil) hneb5 hOy13 hgy13 hfry13
  refine H.ms 1 fun a H => nt ?_
  replace H := H.keep (l' := [(3, .int .i64 (s : Int)), (4, .slice Ay13 (5 + 1) cy13), (5, .slice A5q 3 c5q), (6, .bool false), (7, .int .i64 0)]) ⟨rfl, rfl, rfl, rfl, rfl, trivial⟩
  refine H.rg 1 fun a H => ?_
  refine H.cl (traceStream (fs27 s ++ [fr27b s]) Ay13 cy13 5 6 (by decide) (by decide) y13 hrwy9.at_ (by show 6 ≤ _; decide) (fs27b_len s)) ?_
  rintro a _ y14 ⟨xy14, A8q, c8q, rfl, hhy14, _, hOy14, hby14⟩ H
  obtain ⟨hxby14, hovy14⟩ := anew2 hs hhy14
  rw [hxby14] at hOy14 H; rw [hovy14] at H
  refine H.ms 1 fun a H => ?_
  refine H.ex (r := .slice A8q 3 c8q) 0 fun a H => ?_
  refine H.ex (r := .bool true) 0 fun a H => ?_
  refine H.ex (r := .int .i64 0) 3 fun a H => nt ?_
  replace hrwy9 := hrwy9.next hby14
  replace hr5 := hr5.next hby14
  have hbby14 : Below w.heap.size w y14 := hbby13.trans (hby14.mono hbby13.size)
  have hr8 : RowIs w.heap.size [111, 110, 101] (.slice A8q 3 c8q) y14 := RowIs.of rfl (own_base hOy14 hbby13.size)
  replace H := H.keep (l' := [(3, .int .i64 (s : Int)), (4, .slice Ay13 (5 + 1) cy13), (5, .slice A5q 3 c5q), (6, .bool false), (7, .int .i64 0), (8, .slice A8q 3 c8q), (9, .bool true), (10, .int .i64 0)]) ⟨rfl, rfl, rfl, rfl, rfl, rfl, rfl, rfl, trivial⟩
  refine H.rg 1 fun a H => ?_
  obtain ⟨b7, hb7⟩ : ∃ b5, y14.heap.size = b5 := ⟨_, rfl⟩
  have hszb7 : b7 ≤ y14.heap.size := by rw [hb7]; exact Nat.le_refl _
  have hneb7 : ∀ k, b7 ≤ k → some k ≠ (.slice Ay13 (5 + 1) cy13 : Value).ownBlock := fun k hk => own_ne hrwy9.1 (.inr (by rw [hb7]; exact hk))
  refine H.any (w' := y14) gz rfl rfl (.agg ([.int .i64 0, .int .i64 0, .int .i64 ((70 : Nat) : Int), .int .i64 ((0 : Nat) : Int), .int .i64 ((18 : Nat) : Int), .int .i64 ((0 : Nat) : Int), .slice none ([] : List UInt8).length 0] : List Value).toArray) (by intro cs b h; cases h) (by kernel_rfl) (by kernel_rfl) fun a H => ?_
  refine H.cl (frame27F 5 6 (70) 18 [] none 0 (sg27_ok (port := 6) (sq := 70) (fl := 18) (xs := []) (by decide) (by decide) (by decide) (by decide)) (by decide) y14 (Reads.none_)) ?_
  rintro a _ y15 ⟨Ay15, ny15, cy15, rfl, hfy15, hby15⟩ H
  replace hrwy9 := hrwy9.next hby15
  replace hr5 := hr5.next hby15
  replace hr8 := hr8.next hby15
  have hbby15 : Below w.heap.size w y15 := hbby14.trans (hby15.mono hbby14.size)
  have hszy15 := Nat.le_trans hszb7 hby15.size
  replace hfy15 := hfy15.base (b' := b7) hszb7
  refine H.cs [98] [.int .u8 98] rfl 1 rfl fun a Ay16 y16 H hry16 hby16 => ?_
  replace hfy15 := hfy15.next hby16
  replace hrwy9 := hrwy9.next hby16
  replace hr5 := hr5.next hby16
  replace hr8 := hr8.next hby16
  have hbby16 : Below w.heap.size w y16 := hbby15.trans (hby16.mono hbby15.size)
  have hszy16 := Nat.le_trans hszy15 hby16.size
  refine H.any (w' := y16) gz rfl rfl (.agg ([.int .i64 0, .int .i64 0, .int .i64 ((72 : Nat) : Int), .int .i64 ((0 : Nat) : Int), .int .i64 ((17 : Nat) : Int), .int .i64 ((0 : Nat) : Int), .slice Ay16 ([98] : List UInt8).length 1] : List Value).toArray) (by intro cs b h; cases h) (by kernel_rfl) (by kernel_rfl) fun a H => ?_
  refine H.cl (frame27F 5 6 (72) 17 [98] Ay16 1 (sg27_ok (port := 6) (sq := 72) (fl := 17) (xs := [98]) (by decide) (by decide) (by decide) (by decide)) (by decide) y16 hry16) ?_
  rintro a _ y17 ⟨Ay17, ny17, cy17, rfl, hfy17, hby17⟩ H
  replace hfy15 := hfy15.next hby17
  replace hrwy9 := hrwy9.next hby17
  replace hr5 := hr5.next hby17
  replace hr8 := hr8.next hby17
  have hbby17 : Below w.heap.size w y17 := hbby16.trans (hby17.mono hbby16.size)
  have hszy17 := Nat.le_trans hszy16 hby17.size
  replace hfy17 := hfy17.base (b' := b7) hszy16
  refine H.cs [97] [.int .u8 97] rfl 1 rfl fun a Ay18 y18 H hry18 hby18 => ?_
  replace hfy15 := hfy15.next hby18
  replace hfy17 := hfy17.next hby18
  replace hrwy9 := hrwy9.next hby18
  replace hr5 := hr5.next hby18
  replace hr8 := hr8.next hby18
  have hbby18 : Below w.heap.size w y18 := hbby17.trans (hby18.mono hbby17.size)
  have hszy18 := Nat.le_trans hszy17 hby18.size
  refine H.any (w' := y18) gz rfl rfl (.agg ([.int .i64 0, .int .i64 0, .int .i64 ((71 : Nat) : Int), .int .i64 ((0 : Nat) : Int), .int .i64 ((16 : Nat) : Int), .int .i64 ((0 : Nat) : Int), .slice Ay18 ([97] : List UInt8).length 1] : List Value).toArray) (by intro cs b h; cases h) (by kernel_rfl) (by kernel_rfl) fun a H => ?_
  refine H.cl (frame27F 5 6 (71) 16 [97] Ay18 1 (sg27_ok (port := 6) (sq := 71) (fl := 16) (xs := [97]) (by decide) (by decide) (by decide) (by decide)) (by decide) y18 hry18) ?_
  rintro a _ y19 ⟨Ay19, ny19, cy19, rfl, hfy19, hby19⟩ H
  replace hfy15 := hfy15.next hby19
  replace hfy17 := hfy17.next hby19
  replace hrwy9 := hrwy9.next hby19
  replace hr5 := hr5.next hby19
  replace hr8 := hr8.next hby19
  have hbby19 : Below w.heap.size w y19 := hbby18.trans (hby19.mono hbby18.size)
  have hszy19 := Nat.le_trans hszy18 hby19.size
  replace hfy19 := hfy19.base (b' := b7) hszy18
  have hrwy20 : FrRow y19.heap.size [(.slice Ay15 ny15 cy15, fr27 5 6 (70) 18 []), (.slice Ay17 ny17 cy17, fr27 5 6 (72) 17 [98]), (.slice Ay19 ny19 cy19, fr27 5 6 (71) 16 [97])] (.slice (some ⟨y19.heap.size, 0, none⟩) 3 3) (y19.alloc (.cells ([.slice Ay15 ny15 cy15, .slice Ay17 ny17 cy17, .slice Ay19 ny19 cy19] : List Value).toArray 27)) := FrRow.lit (b := b7) (fr_cons hfy15 (fr_cons hfy17 (fr_cons hfy19 fr_nil))) (by show 3 ≤ 9223372036854775807; decide)
  refine H.any (w' := y19.alloc (.cells ([.slice Ay15 ny15 cy15, .slice Ay17 ny17 cy17, .slice Ay19 ny19 cy19] : List Value).toArray 27)) gz rfl rfl (.slice (some ⟨y19.heap.size, 0, none⟩) 3 3) (by intro cs b h; cases h) (by kernel_rfl) (by kernel_rfl) fun a H => ?_
  have hby20 : Below y19.heap.size y19 (y19.alloc (.cells ([.slice Ay15 ny15 cy15, .slice Ay17 ny17 cy17, .slice Ay19 ny19 cy19] : List Value).toArray 27)) := balloc _ _
  have hrdy20 := Reads.lit y19 27 [.slice Ay15 ny15 cy15, .slice Ay17 ny17 cy17, .slice Ay19 ny19 cy19] (0, 0) 1 3 rfl
  generalize y19.alloc (.cells ([.slice Ay15 ny15 cy15, .slice Ay17 ny17 cy17, .slice Ay19 ny19 cy19] : List Value).toArray 27) = y20 at *
  replace hfy15 := hfy15.next hby20
  replace hfy17 := hfy17.next hby20
  replace hfy19 := hfy19.next hby20
  replace hrwy9 := hrwy9.next hby20
  replace hr5 := hr5.next hby20
  replace hr8 := hr8.next hby20
  have hbby20 : Below w.heap.size w y20 := hbby19.trans (hby20.mono hbby19.size)
  have hszy20 := Nat.le_trans hszy19 hby20.size
  obtain ⟨gb7, hgb7⟩ : ∃ g6, y19.heap.size = g6 := ⟨_, rfl⟩
  rw [hgb7] at H hrdy20
  refine H.appF hrwy9.1 info_bs hrdy20 (by intro u hu; simp only [List.mem_cons, List.not_mem_nil, or_false] at hu; rcases hu with rfl | rfl | rfl <;> rfl) (by show 9 ≤ 9223372036854775807; decide) (by show 9 * 24 ≤ _; decide) (hrwy9.le (Nat.succ_pos _)) fun a Ay21 cy21 y21 hOy21 hgy21 hfry21 H => ?_
  replace hr5 := hr5.past hrwy9.1 hgy21
  replace hr8 := hr8.past hrwy9.1 hgy21
  have hbby21 : Below w.heap.size w y21 := hbby20.grown hgy21 hbby20.size fun k hk => Nat.le_trans hbg4 (hrwy9.1.lt k hk).1
  replace hrwy9 := FrRow.app hrwy9 (fr_cons hfy15 (fr_cons hfy17 (fr_cons hfy19 fr_nil))) hneb7 hOy21 hgy21 hfry21
  refine H.ms 1 fun a H => nt ?_
  replace H := H.keep (l' := [(3, .int .i64 (s : Int)), (4, .slice Ay21 (6 + 3) cy21), (5, .slice A5q 3 c5q), (6, .bool false), (7, .int .i64 0), (8, .slice A8q 3 c8q), (9, .bool true), (10, .int .i64 0)]) ⟨rfl, rfl, rfl, rfl, rfl, rfl, rfl, rfl, trivial⟩
  refine H.rg 1 fun a H => ?_
  refine H.cl (traceStream (fs27 s ++ [fr27b s] ++ fs27c) Ay21 cy21 5 6 (by decide) (by decide) y21 hrwy9.at_ (by show 9 ≤ _; decide) (fs27c_len s)) ?_
  rintro a _ y22 ⟨xy22, A11q, c11q, rfl, hhy22, _, hOy22, hby22⟩ H
  obtain ⟨hxby22, hovy22⟩ := anew3 hs hhy22
  rw [hxby22] at hOy22 H; rw [hovy22] at H
  refine H.ms 1 fun a H => ?_
  refine H.ex (r := .slice A11q 2 c11q) 0 fun a H => ?_
  refine H.ex (r := .bool true) 0 fun a H => ?_
  refine H.ex (r := .int .i64 0) 3 fun a H => nt ?_
  replace hrwy9 := hrwy9.next hby22
  replace hr5 := hr5.next hby22
  replace hr8 := hr8.next hby22
  have hbby22 : Below w.heap.size w y22 := hbby21.trans (hby22.mono hbby21.size)
  have hr11 : RowIs w.heap.size [97, 98] (.slice A11q 2 c11q) y22 := RowIs.of rfl (own_base hOy22 hbby21.size)
  replace H := H.keep (l' := [(3, .int .i64 (s : Int)), (4, .slice Ay21 (6 + 3) cy21), (5, .slice A5q 3 c5q), (6, .bool false), (7, .int .i64 0), (8, .slice A8q 3 c8q), (9, .bool true), (10, .int .i64 0), (11, .slice A11q 2 c11q), (12, .bool true), (13, .int .i64 0)]) ⟨rfl, rfl, rfl, rfl, rfl, rfl, rfl, rfl, rfl, rfl, rfl, trivial⟩
  refine H.tb (fun w' => Below w.heap.size w w' ∧ RowIs w.heap.size [111, 110, 101] (.slice A5q 3 c5q) w' ∧ RowIs w.heap.size [111, 110, 101] (.slice A8q 3 c8q) w' ∧ RowIs w.heap.size [97, 98] (.slice A11q 2 c11q) w') (fun _ _ h hb => ⟨h.1.trans (hb.mono h.1.size), h.2.1.next hb, h.2.2.1.next hb, h.2.2.2.next hb⟩) ⟨hbby22, hr5, hr8, hr11⟩ [ec 0 80 (.int .i64 0), ec 1 81 (.int .i64 0), ec 2 82 (.bool true), ec 3 83 (.bool true), ec 4 84 (.int .i64 0), ec 5 85 (.int .i64 0), ec 6 86 (.bool true), ec 7 87 (.bool true), ec 8 88 (.bool true), ec 9 89 (.int .i64 0), ec 10 90 (.int .i64 0), ec 11 91 (.bool true), ec 12 92 (.bool true), ec 13 93 (.bool true), ec 14 94 (.slice A5q 3 c5q), ec 15 95 (.string ⟨#[111, 110, 101]⟩), ec 16 96 (.bool true), ec 17 97 (.bool true), ec 18 98 (.bool true), ec 19 99 (.bool false), ec 20 100 (.bool true), ec 21 101 (.bool true), ec 22 102 (.bool true), ec 23 103 (.slice A8q 3 c8q), ec 24 104 (.string ⟨#[111, 110, 101]⟩), ec 25 105 (.bool true), ec 26 106 (.bool true), ec 27 107 (.bool true), ec 28 108 (.bool true), ec 29 109 (.bool true), ec 30 110 (.bool true), ec 31 111 (.slice A11q 2 c11q), ec 32 112 (.string ⟨#[97, 98]⟩), ec 33 113 (.bool true), ec 34 114 (.bool true), ec 35 115 (.bool true), ec 36 116 (.bool true), ec 37 117 (.bool true), ec 38 118 (.bool true), eh 39 119 (.bool true), ec 40 120 (.bool true), ec 41 2 (.bool true)] rfl
    ⟨jm, jq fun w' _ => num27 0 w', jb fun _ => eql_iB 0 0 true rfl _ _ _, jm, jm, jq fun w' _ => num27 0 w', jb fun _ => eql_iB 0 0 true rfl _ _ _, jp, jm, jm, jq fun w' _ => num27 0 w', jb fun _ => eql_iB 0 0 true rfl _ _ _, jp, jm, jm, jk fun _ h => strOf (h.2.1.rb) rfl _, jb fun _ => by kernel_rfl, jp, jm, jm, ju (hq := run_not false), jp, jm, jm, jk fun _ h => strOf (h.2.2.1.rb) rfl _, jb fun _ => by kernel_rfl, jp, jm, jm, jp, jm, jm, jk fun _ h => strOf (h.2.2.2.rb) rfl _, jb fun _ => by kernel_rfl, jp, jm, jm, jp, jm, kb fun w' _ => wakes27 w', jp, jm, trivial⟩ ?_
  intro a wz H h
  refine then_normal (wp_ret ?_)
  repeat (first | (with_reducible refine block_ret ?_) | (with_reducible refine then_ret ?_))
  exact bodyPost_ret (results_tmp rfl _ _ _) H.df ⟨congrArg Ending.returned (H.at_ 2 _ rfl), h.1⟩
set_option maxRecDepth 100000 in
theorem Tale.of {H : Type} {enc : TypeId × Value → H} {W : World} {v : Value} {d : DataW H} {p : List MemPlace} (h : Comes enc W 25 v d p) :
    ∃ (vL : Value) (size : Int) (vW : Value) (sq : Int), v = .agg #[vL, .int .i64 size, vW, .int .i64 sq] := by
  obtain ⟨⟨fuel, hf0⟩, hvb, hsz⟩ := h
  obtain ⟨cs, rfl, hcs⟩ := okw_struct Try.underlying25 hvb
  have c4 : Try.prog.cellsOf 25 = 4 := by kernel_rfl
  have e_int : Try.prog.cellsOf 3 = 1 := by kernel_rfl
  rw [c4] at hcs
  obtain ⟨ys, k, _, ex, _, yl, hf⟩ := DataW.trod_struct Try.underlying25 hf0
  obtain ⟨L⟩ := cs
  match L, hcs with
  | [k0, k1, k2, k3], _ =>
    have f1 := hf 1 _ rfl
    have f3 := hf 3 _ rfl
    simp only [List.getElem_toArray, List.getElem_cons_zero, List.getElem_cons_succ, e_int] at f1 f3
    rw [List.getElem?_eq_getElem (by rw [yl]; decide)] at f1 f3
    obtain ⟨n1, e1, _, _⟩ := DataW.trod_int Try.underlying3 f1
    obtain ⟨n3, e3, _, _⟩ := DataW.trod_int Try.underlying3 f3
    have q1 : [k1] = [Value.int .i64 n1] := e1
    have q3 : [k3] = [Value.int .i64 n3] := e3
    simp only [List.cons.injEq, and_true] at q1 q3
    subst q1 q3
    exact ⟨k0, n1, k2, n3, rfl⟩
set_option maxRecDepth 100000 in
theorem traceAnew_lifted (os : Os) (started : os.Started) (H : Type) (enc : TypeId × Value → H) :
    ReturnsInHanded {} Try.checked os 3 .any (Rows.traceAnewSpec.pre6 enc Try.prog Try.f3 [] false) (Rows.traceAnewSpec.post enc Try.prog Try.f3 false true false false) :=
  plain_core (C := Try.checked) (T := 25) own_knob laid_out Try.func3 Try.params3 (by kernel_rfl) Try.underlying4 rfl (fun _ _ => rfl) (by kernel_rfl) (of_decide_eq_true (by kernel_rfl)) (by kernel_rfl)
    (fun H enc W v d p h0 hv hs => by
      obtain ⟨vL, size, vW, sq, rfl⟩ := Tale.of (enc := enc) ⟨h0, hv, hs⟩
      exact traceAnew_walk vL vW size sq W) os started H enc
    (ChangeSpec.witness6 (enc := enc) (C := Try.checked) false ⟨#[], #[.agg #[.slice none 0 0, .int .i64 0, .slice none 0 0, .int .i64 0]], []⟩ 8 (by kernel_rfl) (by kernel_rfl) (by kernel_rfl) (by kernel_rfl))

theorem traceAnew_holds : Rows.TraceAnewSaid :=
  OpenClaim.holds_of_wide 3 Try.f3 rfl rfl rfl rfl rfl rfl rfl ⟨rfl, rfl, rfl, rfl, rfl⟩ rfl rfl rfl rfl rfl (by kernel_rfl) Try.func3 (by kernel_rfl)
    (of_decide_eq_true (by kernel_rfl)) (by unfold Func.isWrapper; first | (rw [if_pos (by decide +kernel)]; kernel_rfl) | (rw [if_neg (by decide +kernel)]; exact ⟨rfl, rfl⟩))
    (fun os started H enc _ => traceAnew_lifted os started H enc)
end Go.Proofs.Ytlacidnnankjlaa
