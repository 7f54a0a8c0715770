/-
  A client's frames: frame, segment.
-/
import Derived.Laws.FloatArith
import Derived.WalkLawsBesides
import Derived.Shelf.Small.Utf8
import Derived.Shelf.Small.Strs
import Derived.Shelf.Strings.Search1
import Derived.Shelf.Strings.Search2
import Derived.Shelf.Strings.Search3
import Derived.Shelf.LaysM
import Derived.Shelf.Strings.Shaped
import Derived.Shelf.Strings.Runes
import Derived.Shelf.Strings.IndexAny
import Derived.Shelf.Strings.AsciiSet
import Derived.Shelf.Strings.IndexAnyAll
import Derived.Shelf.Unicode.ValidAny
import Derived.Test.YtlacidnnankjlaaGreatDoorProg
import Derived.Lib.AppendStr
import Derived.Lib.ValidU
import Derived.Laws.RangeAny
import Derived.Lib.OthersKept
import Derived.Laws.Runes
import Derived.Deep.LoopGhost
import Derived.Deep.QuietTactic
import Derived.BigQuiet
import Derived.OwnWalk
import Derived.RegionTactic
import Derived.BigRegion
import Derived.Laws.IdiomStrings
import Derived.Lib.BufferRead
import Derived.Great.Frames
import Derived.Test.YtlacidnnankjlaaGreatDoorCd2
namespace Go.Proofs.YtlacidnnankjlaaGreatDoor
open Go.RowKit

theorem sg_okN (sp dp sq ak fl wn : Nat) (xs : List UInt8) (h1 : sp ≤ 65535) (h2 : dp ≤ 65535) (h3 : sq ≤ 4294967295) (h4 : ak ≤ 4294967295) (h5 : fl ≤ 63) (h6 : wn ≤ 65535) (h7 : xs.length ≤ 1460) : Sg.ok ⟨sp, dp, sq, ak, fl, wn, xs⟩ = true := by
  have k : ∀ {n m : Nat}, n ≤ m → (0 : Int) ≤ (n : Int) ∧ (n : Int) ≤ ((m : Nat) : Int) := fun h => by omega
  exact Sg.ok_iff.2 ⟨k h1, k h2, k h3, k h4, k h5, k h6, h7⟩
/-- a client's cells. -/
abbrev cliC (ip mac port iss next wants : Nat) (up : Bool) (vg vl : Value) : List Value := [.int .i64 (ip : Int), .int .i64 (mac : Int), .int .i64 (port : Int), .int .i64 (iss : Int), .int .i64 (next : Int), .int .i64 (wants : Int), .bool up, vg, vl]
set_option maxRecDepth 100000 in
set_option maxHeartbeats 1600000 in
theorem cliFrame (g ip mac port iss next wants : Nat) (up : Bool) (vg vl : Value) (t : Nat) (xs : List UInt8) (n : Nat) (hn : xs.length = n) (A : Option Addr) (c : Nat) (w : World) (hC : Cells w g (cliC ip mac port iss next wants up vg vl)) (hm : mac < 281474976710656) (ht : t < 65536) (hx : RB w w.heap.size A xs) (hl : n ≤ 1500) :
    Calls Tryz.prog 84 #[.pointer (some ⟨g, 0, none⟩), .int .i64 (t : Int), .slice A n c] w fun e w' => ∃ v, e = .returned v ∧ (RowIs w.heap.size (frBytes 2199023255553 mac t xs) v w' ∧ Below w.heap.size w w') := by
  subst hn
  go_enter Tryz.func84, Tryz.ntmps84
  refine Has.start 21 [(0, .pointer (some ⟨g, 0, none⟩)), (1, .int .i64 (t : Int)), (2, .slice A xs.length c)] rfl rfl ⟨rfl, rfl, rfl, trivial⟩ ?_
  intro a0 H0
  refine H0.rg 1 fun a1 H1 => nt ?_
  refine H1.rg 3 fun a H => ?_
  refine H.ld 2 (load1_i _ _ _ _ (hC.get 1 _ rfl)) fun a H => ?_
  refine H.any (w' := w) gz rfl rfl (.agg #[.int .i64 2199023255553, .int .i64 (mac : Int), .int .i64 (t : Int), .slice A xs.length c]) (by intro cs b h; cases h) (by kernel_rfl) (by kernel_rfl) fun a H => ?_
  refine H.cl (ethBytes 2199023255553 mac t xs A c w (by decide) hm ht hx hl) ?_
  rintro a _ w1 ⟨vr, rfl, hr, hb⟩ H
  refine H.ms 1 fun a H => ?_
  refine H.ex (r := vr) 0 fun a H => ?_
  refine H.ex (r := .int .i64 0) 2 fun a H => nt ?_
  refine H.rg 2 fun a H => nt (wp_ret ?_)
  repeat (first | (with_reducible refine block_ret ?_) | (with_reducible refine then_ret ?_))
  exact bodyPost_ret (results_tmp rfl _ _ _) H.df ⟨vr, congrArg Ending.returned (H.at_ 6 _ rfl), hr, hb⟩
theorem segBytesC (src dst sp dp sq ak fl wn : Nat) (xs : List UInt8) (A : Option Addr) (c : Nat) (h : Sg.ok ⟨sp, dp, sq, ak, fl, wn, xs⟩ = true) (hs : src < 4294967296) (hd : dst < 4294967296) (w : World) (hx : RB w w.heap.size A xs) :
    Calls Tryz.prog 82 #[.int .i64 src, .int .i64 dst, .agg #[.int .i64 sp, .int .i64 dp, .int .i64 sq, .int .i64 ak, .int .i64 fl, .int .i64 wn, .slice A xs.length c]] w fun e w' => ∃ v, e = .returned v ∧ (∃ A' c', v = .tuple #[.slice A' (20 + xs.length) c', .int .i64 0] ∧ w'.ownsRow w.heap.size 5 1 (.slice A' (20 + xs.length) c') (20 + xs.length) ((sgBytes src dst sp dp sq ak fl wn xs).map bv) ∧ Below w.heap.size w w') :=
  (segBytes src dst sp dp sq ak fl wn xs xs.length rfl A c h hs hd w hx).mono fun _ _ ⟨A', c', h1, h2, h3⟩ => ⟨_, h1, A', c', rfl, h2, h3⟩
theorem ipBytesC (s d p t i : Nat) (xs : List UInt8) (n : Nat) (hl : xs.length = n) (A : Option Addr) (c : Nat) (h : Pk.ok ⟨s, d, p, t, i, xs⟩ = true) (w : World) (hx : RB w w.heap.size A xs) :
    Calls Tryz.prog 83 #[.agg #[.int .i64 s, .int .i64 d, .int .i64 p, .int .i64 t, .int .i64 i, .slice A n c]] w fun e w' => ∃ v, e = .returned v ∧ (∃ A' c', v = .tuple #[.slice A' (20 + n) c', .int .i64 0] ∧ w'.ownsRow w.heap.size 5 1 (.slice A' (20 + n) c') (20 + n) ((ipHead s d p t i n ++ xs).map bv) ∧ Below w.heap.size w w') :=
  (ipBytes s d p t i xs n hl A c h w hx).mono fun _ _ ⟨A', c', h1, h2, h3⟩ => ⟨_, h1, A', c', rfl, h2, h3⟩
set_option maxRecDepth 100000 in
set_option maxHeartbeats 1600000 in
theorem cliSegment (g ip mac port iss next wants : Nat) (up : Bool) (vg vl : Value) (sq ak fl : Nat) (xs : List UInt8) (n : Nat) (hn : xs.length = n) (A : Option Addr) (c : Nat) (w : World) (hC : Cells w g (cliC ip mac port iss next wants up vg vl)) (hg : g < w.heap.size) (hip : ip < 4294967296) (hm : mac < 281474976710656)
    (hq : Sg.ok ⟨port, 1883, sq, ak, fl, 65535, xs⟩ = true) (hx : RB w w.heap.size A xs) :
    Calls Tryz.prog 49 #[.pointer (some ⟨g, 0, none⟩), .int .i64 (sq : Int), .int .i64 (ak : Int), .int .i64 (fl : Int), .slice A n c] w fun e w' => ∃ v, e = .returned v ∧ (RowIs w.heap.size (wire 2199023255553 mac ip 167772161 ⟨port, 1883, sq, ak, fl, 65535, xs⟩) v w' ∧ Below w.heap.size w w') := by
  subst hn
  have hl : xs.length ≤ 1460 := (Sg.ok_iff.1 hq).2.2.2.2.2.2
  have cc : ∀ {w' : World} (j : Nat) (v : Value), Below w.heap.size w w' → (cliC ip mac port iss next wants up vg vl)[j]? = some v → w'.cell? ⟨g, j, none⟩ = some v := fun j v h hj => (hC.below h hg).get j v hj
  go_enter Tryz.func49, Tryz.ntmps49
  refine Has.start 45 [(0, .pointer (some ⟨g, 0, none⟩)), (1, .int .i64 (sq : Int)), (2, .int .i64 (ak : Int)), (3, .int .i64 (fl : Int)), (4, .slice A xs.length c)] rfl rfl ⟨rfl, rfl, rfl, rfl, rfl, trivial⟩ ?_
  intro a0 H0
  refine H0.rg 1 fun a1 H1 => nt ?_
  refine H1.sg (fun w' => Below w.heap.size w w') (Below.drew (Below.refl _ _)) [0, 1, 2, 3, 4]
    [ec 0 16 (.pointer (some ⟨g, 0, none⟩)), ec 1 17 (.pointer (some ⟨g, 0, none⟩)), ec 2 18 (.pointer (some ⟨g, 0, none⟩)), ec 3 19 (.int .i64 (ip : Int)), ec 4 20 (.pointer (some ⟨g, 0, none⟩)), ec 5 21 (.pointer (some ⟨g, 0, none⟩)), ec 6 22 (.pointer (some ⟨g, 2, none⟩)), ec 7 23 (.int .i64 (port : Int)),
     ec 8 24 (.int .i64 (sq : Int)), ec 9 25 (.int .i64 (ak : Int)), ec 10 26 (.int .i64 (fl : Int)), ec 11 27 (.slice A xs.length c), ec 12 28 (.agg #[.int .i64 (port : Int), .int .i64 ((1883 : Nat) : Int), .int .i64 (sq : Int), .int .i64 (ak : Int), .int .i64 (fl : Int), .int .i64 ((65535 : Nat) : Int), .slice A xs.length c])] rfl ?_
  refine St.call 13 ⟨jm, jm, jm, jl fun _ h => load1_i _ _ _ _ (cc 0 _ h rfl), jm, jm, jm, jl fun _ h => load1_i _ _ _ _ (cc 2 _ h rfl), jm, jm, jm, jm, ja (fun _ => by kernel_rfl), trivial⟩ (fun wy h => segBytesC ip 167772161 port 1883 sq ak fl 65535 xs A c hq hip (by decide) wy (hx.next h)) ?_
  rintro wy _ wz hb1 ⟨A1, c1, rfl, hO1, hb2⟩
  have hs1 := hb1.size
  generalize hbd : wy.heap.size = bb at hO1 hb2 hs1
  refine nx (fun w' => Below w.heap.size w w' ∧ w'.ownsRow bb 5 1 (.slice A1 (20 + xs.length) c1) (20 + xs.length) ((sgBytes ip 167772161 port 1883 sq ak fl 65535 xs).map bv) ∧ bb ≤ w'.heap.size)
    [ec 14 15 (.tuple #[.slice A1 (20 + xs.length) c1, .int .i64 0]), ec 15 30 (.slice A1 (20 + xs.length) c1), ec 16 31 (.int .i64 0), ec 17 11 (.slice A1 (20 + xs.length) c1), ec 18 12 (.int .i64 0)] [] ⟨hb1.trans (hb2.mono hs1), hO1, hbd ▸ hb2.size⟩ ?_
  refine St.fin ⟨jm, jx, jx, jm, jm, trivial⟩ ?_ (hF := .inl rfl)
  rintro a2 w2 H2 _ ⟨hb, hO, hs⟩
  refine then_normal ?_
  replace H2 := H2.keep (l' := [(0, .pointer (some ⟨g, 0, none⟩)), (11, .slice A1 (20 + xs.length) c1)]) ⟨rfl, rfl, trivial⟩
  have hr2 := rb_of_own (sgBytes_length ip 167772161 port 1883 sq ak fl 65535 xs) hO hs
  have hpk := wire_ip (src := ip) (dst := 167772161) (q := ⟨port, 1883, sq, ak, fl, 65535, xs⟩) hip (by decide) hl
  refine H2.rg 3 fun a H => ?_
  refine H.ld 1 (load1_i _ _ _ _ (cc 0 _ hb rfl)) fun a H => ?_
  refine H.any (w' := w2) gz rfl rfl (.agg #[.int .i64 (ip : Int), .int .i64 ((167772161 : Nat) : Int), .int .i64 ((6 : Nat) : Int), .int .i64 ((64 : Nat) : Int), .int .i64 ((0 : Nat) : Int), .slice A1 (20 + xs.length) c1]) (by intro cs b h; cases h) (by kernel_rfl) (by kernel_rfl) fun a H => ?_
  refine H.cl (ipBytesC ip 167772161 6 64 0 (sgBytes ip 167772161 port 1883 sq ak fl 65535 xs) (20 + xs.length) (sgBytes_length ..) A1 c1 hpk w2 hr2) ?_
  rintro a _ w3 ⟨A2, c2, rfl, hO2, hb3⟩ H
  have hbb3 := hb.trans (hb3.mono hb.size)
  refine H.ms 1 fun a H => ?_
  refine H.ex (r := .slice A2 (20 + (20 + xs.length)) c2) 0 fun a H => ?_
  refine H.ex (r := .int .i64 0) 2 fun a H => nt ?_
  have hlen : (ipHead ip 167772161 6 64 0 (20 + xs.length) ++ sgBytes ip 167772161 port 1883 sq ak fl 65535 xs).length = 20 + (20 + xs.length) := by rw [List.length_append, ipHead_length, sgBytes_length]
  have hr3 := rb_of_own hlen hO2 hb3.size
  refine H.rg 2 fun a H => ?_
  refine H.cl (cliFrame g ip mac port iss next wants up vg vl 2048 _ _ hlen A2 c2 w3 (hC.below hbb3 hg) hm (by decide) hr3 (by omega)) ?_
  rintro a v w4 ⟨hr4, hb4⟩ H
  refine H.ms 1 fun a H => nt (wp_ret ?_)
  repeat (first | (with_reducible refine block_ret ?_) | (with_reducible refine then_ret ?_))
  refine bodyPost_ret (results_tmp rfl _ _ _) H.df ⟨v, congrArg Ending.returned (H.at_ 10 _ rfl), ?_, hbb3.trans (hb4.mono hbb3.size)⟩
  have e : wire 2199023255553 mac ip 167772161 ⟨port, 1883, sq, ak, fl, 65535, xs⟩ = frBytes 2199023255553 mac 2048 (ipHead ip 167772161 6 64 0 (20 + xs.length) ++ sgBytes ip 167772161 port 1883 sq ak fl 65535 xs) := by
    rw [← sgBytes_length ip 167772161 port 1883 sq ak fl 65535 xs]
    rfl
  rw [e]
  exact hr4.base hbb3.size
end Go.Proofs.YtlacidnnankjlaaGreatDoor

/-
  arp's bytes; a client's question.
-/
namespace Go.Proofs.YtlacidnnankjlaaGreatDoor
open Go.RowKit

end Go.Proofs.YtlacidnnankjlaaGreatDoor

/-
  A client: made, dialled; not up it says nothing.
-/
namespace Go.Proofs.YtlacidnnankjlaaGreatDoor
open Go.RowKit

set_option maxRecDepth 100000 in
theorem cliNew (ip mac port iss : Nat) (hip : ip < 4294967296) (hm : mac < 281474976710656) (hp : port < 65536) (hi : iss < 4294967296) (w : World) :
    Calls Tryz.prog 8 #[.int .i64 (ip : Int), .int .i64 (mac : Int), .int .i64 (port : Int), .int .i64 (iss : Int)] w fun e w' => ∃ v, e = .returned v ∧ (∃ g, v = .tuple #[.pointer (some ⟨g, 0, none⟩), .int .i64 0] ∧ Own w w.heap.size [(g, cliC ip mac port iss (spAdd iss 1) 0 false nilV nilV)] w') := by
  have h1 : inR (ip : Int) 4294967295 = true := inR_iff.2 ⟨by omega, by omega⟩
  have h2 : inR (mac : Int) 281474976710655 = true := inR_iff.2 ⟨by omega, by omega⟩
  have h3 : inR (port : Int) 65535 = true := inR_iff.2 ⟨by omega, by omega⟩
  have h4 : inR (iss : Int) 4294967295 = true := inR_iff.2 ⟨by omega, by omega⟩
  go_enter Tryz.func8, Tryz.ntmps8
  refine Has.start 36 [(0, .int .i64 (ip : Int)), (1, .int .i64 (mac : Int)), (2, .int .i64 (port : Int)), (3, .int .i64 (iss : Int))] rfl rfl ⟨rfl, rfl, rfl, rfl, trivial⟩ ?_
  intro a0 H0
  have O0 := Own.start w
  refine H0.rg 2 fun a1 H1 => nt ?_
  refine H1.tb (Own w w.heap.size []) (fun _ _ h hb => h.call hb) O0
    [ec 0 10 (.int .i64 (ip : Int)), ec 1 11 (.bool true), ec 2 12 (.bool false), ec 3 13 (.bool false), ec 4 14 (.int .i64 (mac : Int)), ec 5 15 (.bool true), ec 6 16 (.bool false), ec 7 17 (.bool false), ec 8 18 (.bool false),
     ec 9 19 (.int .i64 (port : Int)), ec 10 20 (.bool true), ec 11 21 (.bool false), ec 12 22 (.bool false), ec 13 23 (.bool false), ec 14 24 (.int .i64 (iss : Int)), ec 15 25 (.bool true), ec 16 26 (.bool false), ec 17 27 (.bool false)] rfl
    ⟨jm, jq fun w' _ => h1 ▸ segIP ip w', ju (hq := run_not true), jm, jm, jq fun w' _ => h2 ▸ ethWithin mac 281474976710655 w', ju (hq := run_not true), jp, jm, jm, jq fun w' _ => h3 ▸ segPort port w', ju (hq := run_not true), jp, jm, jm, jq fun w' _ => h4 ▸ spanIs iss w', ju (hq := run_not true), jp, trivial⟩ ?_
  intro a2 w2 H2 O2
  refine then_normal (H2.condF rfl (skip_wp (then_normal ?_)))
  replace H2 := H2.keep (l' := [(0, .int .i64 (ip : Int)), (1, .int .i64 (mac : Int)), (2, .int .i64 (port : Int)), (3, .int .i64 (iss : Int))]) ⟨rfl, rfl, rfl, rfl, trivial⟩
  refine H2.rg 5 fun a H => ?_
  refine H.cq 0 (spanAdd iss 1 (by omega) (by decide) _) fun a H => ?_
  refine H.any (w' := w2) gz rfl rfl (.agg (cliC ip mac port iss (spAdd iss 1) 0 false nilV nilV).toArray) (by intro cs b h; cases h) (by kernel_rfl) (by kernel_rfl) fun a H => ?_
  refine H.bx O2 2 (L := cliC ip mac port iss (spAdd iss 1) 0 false nilV nilV) fun a w3 O3 H => nt (wp_ret ?_)
  repeat (first | (with_reducible refine block_ret ?_) | (with_reducible refine then_ret ?_))
  exact bodyPost_ret (results_pair rfl _ _ _ (H.at_ 8 _ rfl) (H.at_ 9 _ rfl)) H.df ⟨_, rfl, _, rfl, O3⟩
set_option maxRecDepth 100000 in
theorem cliUp (g ip mac port iss next wants : Nat) (up : Bool) (vg vl : Value) (w : World) (hC : Cells w g (cliC ip mac port iss next wants up vg vl)) : Calls Tryz.prog 14 #[.pointer (some ⟨g, 0, none⟩)] w fun e w' => e = .returned (.bool up) ∧ w = w' := by
  go_enter Tryz.func14, Tryz.ntmps14
  refine Has.start 7 [(0, .pointer (some ⟨g, 0, none⟩))] rfl rfl ⟨rfl, trivial⟩ ?_
  intro a0 H0
  refine H0.rg 1 fun a1 H1 => nt ?_
  refine H1.rg 3 fun a H => ?_
  refine H.ld 1 (load1_b _ _ _ _ (hC.get 6 _ rfl)) fun a H => nt (wp_ret ?_)
  repeat (first | (with_reducible refine block_ret ?_) | (with_reducible refine then_ret ?_))
  exact bodyPost_ret (results_tmp rfl _ _ _) H.df ⟨congrArg Ending.returned (H.at_ 2 _ rfl), rfl⟩
set_option maxRecDepth 100000 in
theorem cliDial (g ip mac port iss next wants : Nat) (up : Bool) (vg vl : Value) (w : World) (hC : Cells w g (cliC ip mac port iss next wants up vg vl)) (hg : g < w.heap.size) (hip : ip < 4294967296) (hm : mac < 281474976710656) (hp : port < 65536) (hi : iss < 4294967296) :
    Calls Tryz.prog 10 #[.pointer (some ⟨g, 0, none⟩)] w fun e w' => ∃ v, e = .returned v ∧ (RowIs w.heap.size (wire 2199023255553 mac ip 167772161 ⟨port, 1883, iss, 0, 2, 65535, []⟩) v w' ∧ w.grownBy w' (some g) ∧ Cells w' g (cliC ip mac port iss (spAdd iss 1) wants false nilV nilV)) := by
  have hq : Sg.ok ⟨port, 1883, (iss : Nat), ((0 : Nat) : Int), ((2 : Nat) : Int), 65535, []⟩ = true := sg_okN port 1883 iss 0 2 65535 [] (by omega) (by decide) (by omega) (by decide) (by decide) (by decide) (by decide)
  go_enter Tryz.func10, Tryz.ntmps10
  refine Has.start 26 [(0, .pointer (some ⟨g, 0, none⟩))] rfl rfl ⟨rfl, trivial⟩ ?_
  intro a0 H0
  refine H0.rg 1 fun a1 H1 => nt ?_
  refine H1.rg 7 fun a H => ?_
  refine H.ld 0 (load1_i _ _ _ _ (hC.get 3 _ rfl)) fun a H => ?_
  refine H.cq 2 (spanAdd iss 1 (by omega) (by decide) _) fun a H => ?_
  refine H.put1 hC 2 (fun u h1 h2 => store1_i _ _ _ u _ h1 h2) fun a w1 C1 g1 H => ?_
  refine H.put1 C1 2 (fun u h1 h2 => store1_b _ _ _ u _ h1 h2) fun a w2 C2 g2 H => ?_
  refine H.put1 C2 2 (fun u h1 h2 => store1_31 _ _ _ _ _ u _ h1 h2) fun a w3 C3 g3 H => ?_
  refine H.put1 C3 0 (fun u h1 h2 => store1_31 _ _ _ _ _ u _ h1 h2) fun a w4 C4 g4 H => nt ?_
  have C4 : Cells w4 g (cliC ip mac port iss (spAdd iss 1) wants false nilV nilV) := C4
  have hg4 := ((g1.trans g2).trans g3).trans g4
  have hs4 := hg4.size
  replace H := H.keep (l' := [(0, .pointer (some ⟨g, 0, none⟩))]) ⟨rfl, trivial⟩
  refine H.rg 4 fun a H => ?_
  refine H.ld 0 (load1_i _ _ _ _ (C4.get 3 _ rfl)) fun a H => ?_
  refine H.cl (cliSegment g ip mac port iss (spAdd iss 1) wants false nilV nilV iss 0 2 [] 0 rfl none 0 w4 C4 (by omega) hip hm hq RB.nil) ?_
  rintro a v w5 ⟨hr, hb⟩ H
  refine H.ms 1 fun a H => nt (wp_ret ?_)
  repeat (first | (with_reducible refine block_ret ?_) | (with_reducible refine then_ret ?_))
  exact bodyPost_ret (results_tmp rfl _ _ _) H.df ⟨v, congrArg Ending.returned (H.at_ 2 _ rfl), hr.base hs4, hg4.trans (below_grown hb _), C4.below hb (by omega)⟩
end Go.Proofs.YtlacidnnankjlaaGreatDoor

/-
  Whole numbers as floats of 64 bits: what they are read as, how they stand to each other, back again.
-/
namespace Go.Proofs.YtlacidnnankjlaaGreatDoor
open Ieee

/-- the bits of a whole number from 0 on. -/
def fl (n : Nat) : Nat := floatOfInt .f64 (n : Int)
theorem fl_eq (n : Nat) : fl n = double.nearest false n 0 := by
  unfold fl floatOfInt
  show double.write (.number (decide ((n : Int) < 0)) (n : Int).natAbs 0) = _
  have h : decide ((n : Int) < 0) = false := decide_eq_false (by omega)
  rw [h]
  rfl
theorem dbl_binade : double.binade = 4503599627370496 := by decide
theorem dbl_inf : double.infRung = 9218868437227405312 := by decide
theorem dbl_sign : double.signWeight = 9223372036854775808 := by decide
theorem dbl_least : double.leastPlace = -1074 := by decide
theorem read_zero : double.read 0 = .number false 0 (-1074) := by decide
theorem fl_zero : fl 0 = 0 := by
  rw [fl_eq]
  unfold Format.nearest
  rw [if_pos rfl]
  rfl
theorem read_rung (L N : Nat) (hL : L ≤ 52) (hN1 : 4503599627370496 ≤ N) (hN2 : N < 9007199254740992) : double.read ((L + 1022) * 4503599627370496 + N) = .number false N (-((52 - L : Nat) : Int)) := by
  obtain ⟨R, hR⟩ : ∃ R, R = (L + 1022) * 4503599627370496 + N := ⟨_, rfl⟩
  have r1 : R / 9223372036854775808 = 0 := by omega
  have r2 : R % 9223372036854775808 = R := by omega
  have r3 : R / 4503599627370496 = L + 1023 := by omega
  have r4 : R % 4503599627370496 = N - 4503599627370496 := by omega
  have r5 : ¬ R < 4503599627370496 := by omega
  have r6 : R < 9218868437227405312 := by omega
  rw [← hR]
  unfold Format.read
  simp only [dbl_binade, dbl_inf, dbl_sign, dbl_least, r1, r2, r3, r4, if_neg r5, if_pos r6]
  have a1 : 4503599627370496 + (N - 4503599627370496) = N := by omega
  have a2 : (-1074 : Int) + ((L + 1023 - 1 : Nat) : Int) = -((52 - L : Nat) : Int) := by omega
  rw [a1, a2]
  rfl
theorem cut_none (n : Nat) : Toward.even.cut false n 0 = n := by
  unfold Toward.cut
  simp [Nat.mod_one]
theorem fl_rung (n L : Nat) (h0 : n ≠ 0) (hL : n.log2 = L) (hL52 : L ≤ 52) (hN2 : n * 2 ^ (52 - L) < 9007199254740992) : fl n = (L + 1022) * 4503599627370496 + n * 2 ^ (52 - L) := by
  rw [fl_eq]
  unfold Format.nearest
  rw [if_neg h0]
  have hlast : max ((0 : Int) + (n.log2 : Nat) - (double.fractionBits : Nat)) double.leastPlace = (L : Int) - 52 := by
    rw [hL, dbl_least]
    show max ((0 : Int) + (L : Nat) - ((52 : Nat) : Int)) (-1074) = _
    omega
  simp only [hlast]
  have h1 : ((0 : Int) - ((L : Int) - 52)).toNat = 52 - L := by omega
  have h2 : (((L : Int) - 52) - 0).toNat = 0 := by omega
  have h3 : (((L : Int) - 52) - double.leastPlace).toNat = L + 1022 := by
    rw [dbl_least]
    omega
  rw [h1, h2, h3, Nat.shiftLeft_eq, cut_none, dbl_binade, dbl_inf]
  generalize n * 2 ^ (52 - L) = N at hN2
  unfold Format.word
  rw [if_neg (by decide)]
  exact Nat.min_eq_left (by omega)
theorem log_52 (n : Nat) (h : n < 9007199254740992) (h0 : n ≠ 0) : n.log2 ≤ 52 := by
  have := (Nat.log2_lt h0 (k := 53)).2 (by simpa using h)
  omega
theorem read_fl (n : Nat) (h : n < 9007199254740992) : ∃ k : Nat, double.read (fl n) = .number false (n * 2 ^ k) (-(k : Int)) := by
  by_cases h0 : n = 0
  · subst h0
    rw [fl_zero, read_zero]
    obtain ⟨K, hK⟩ : ∃ K : Nat, K = 1074 := ⟨_, rfl⟩
    exact ⟨K, by rw [Nat.zero_mul, hK]; rfl⟩
  have hlo := Nat.log2_self_le h0
  have hhi := Nat.lt_log2_self (n := n)
  have hL52 := log_52 n h h0
  obtain ⟨L, hL⟩ : ∃ L, n.log2 = L := ⟨_, rfl⟩
  rw [hL] at hlo hhi hL52
  have hN1 : 4503599627370496 ≤ n * 2 ^ (52 - L) := by
    have h1 : 2 ^ L * 2 ^ (52 - L) ≤ n * 2 ^ (52 - L) := Nat.mul_le_mul_right _ hlo
    rw [← Nat.pow_add, show L + (52 - L) = 52 from Nat.add_sub_cancel' hL52] at h1
    exact h1
  have hN2 : n * 2 ^ (52 - L) < 9007199254740992 := by
    have h1 : n * 2 ^ (52 - L) < 2 ^ (L + 1) * 2 ^ (52 - L) := Nat.mul_lt_mul_of_pos_right hhi (Nat.two_pow_pos _)
    rw [← Nat.pow_add, show L + 1 + (52 - L) = 53 by omega] at h1
    exact h1
  exact ⟨52 - L, by rw [fl_rung n L h0 hL hL52 hN2]; exact read_rung L _ hL52 hN1 hN2⟩
theorem order_fl (a b : Nat) (ha : a < 9007199254740992) (hb : b < 9007199254740992) : double.order (fl a) (fl b) = some (compare (a : Int) (b : Int)) := by
  obtain ⟨i, hi⟩ := read_fl a ha
  obtain ⟨j, hj⟩ := read_fl b hb
  unfold Format.order
  rw [hi, hj]
  unfold Datum.order
  have h1 : ((-(i : Int)) - min (-(i : Int)) (-(j : Int))).toNat = max i j - i := by omega
  have h2 : ((-(j : Int)) - min (-(i : Int)) (-(j : Int))).toNat = max i j - j := by omega
  simp only [h1, h2, signed, Bool.false_eq_true, if_false, Nat.shiftLeft_eq, Nat.mul_assoc, ← Nat.pow_add]
  rw [show i + (max i j - i) = max i j by omega, show j + (max i j - j) = max i j by omega]
  have hp := Nat.two_pow_pos (max i j)
  generalize 2 ^ max i j = m at hp
  congr 1
  have hlt : ((a * m : Nat) : Int) < ((b * m : Nat) : Int) ↔ (a : Int) < (b : Int) := by
    rw [Int.ofNat_lt, Int.ofNat_lt]
    exact Nat.mul_lt_mul_right hp
  have heq : ((a * m : Nat) : Int) = ((b * m : Nat) : Int) ↔ (a : Int) = (b : Int) := by
    rw [Int.ofNat_inj, Int.ofNat_inj]
    exact Nat.mul_left_inj (by omega)
  show compareOfLessAndEq _ _ = compareOfLessAndEq _ _
  unfold compareOfLessAndEq
  simp only [hlt, heq]
theorem cut_zero (n k : Nat) : Toward.zero.cut false (n * 2 ^ k) k = n := by
  unfold Toward.cut
  simp only [Nat.shiftLeft_eq, Nat.one_mul, Bool.toNat_false, Nat.add_zero]
  by_cases hm : k ≤ (n * 2 ^ k).log2 + 2
  · rw [Nat.min_eq_left hm]
    exact Nat.mul_div_cancel _ (Nat.two_pow_pos k)
  · rw [Nat.min_eq_right (by omega)]
    have h1 := Nat.lt_log2_self (n := n * 2 ^ k)
    have h2 : 2 ^ ((n * 2 ^ k).log2 + 1) ≤ 2 ^ k := Nat.pow_le_pow_right (by decide) (by omega)
    have h3 : n = 0 := by
      rcases Nat.eq_zero_or_pos n with h | h
      · exact h
      · have := Nat.le_mul_of_pos_left (2 ^ k) h
        omega
    subst h3
    simp
theorem fl_int (n : Nat) (h : n < 9007199254740992) : floatToIntVal .f64 (fl n) .i64 = some (n : Int) := by
  obtain ⟨k, hk⟩ := read_fl n h
  unfold floatToIntVal
  show (match (double.read (fl n)).toInt .zero with
    | some n => if IntKind.i64.min ≤ n ∧ n ≤ IntKind.i64.max then some n else none
    | none => none) = _
  rw [hk]
  have hc := cut_zero n k
  unfold Datum.toInt Datum.integral
  have h1 : (-(k : Int)).toNat = 0 := by omega
  have h2 : (-(-(k : Int))).toNat = k := by omega
  simp only [h1, h2, Nat.shiftLeft_zero, hc, signed, Bool.false_eq_true, if_false]
  have h3 : IntKind.i64.min ≤ (n : Int) ∧ (n : Int) ≤ IntKind.i64.max := by
    show (-9223372036854775808 : Int) ≤ _ ∧ _ ≤ (9223372036854775807 : Int)
    omega
  rw [if_pos h3]
end Go.Proofs.YtlacidnnankjlaaGreatDoor

/-
  Package span: numbers that go round, spans of them as complex numbers.
-/
namespace Go.Proofs.YtlacidnnankjlaaGreatDoor
open Go.RowKit

/-- a span. -/
def spV (s n : Nat) : Value := .complex .f64 (fl s) (fl n)
theorem and_z (z : Int) : bits .and .i64 z 4294967295 = ((z % 4294967296).toNat : Int) := by
  show IntKind.i64.wrap ((BitVec.ofInt 64 z &&& BitVec.ofInt 64 4294967295).toNat : Int) = _
  have h1 : (BitVec.ofInt 64 4294967295).toNat = 4294967295 := by decide
  have h2 : (BitVec.ofInt 64 z).toNat = (z % 18446744073709551616).toNat := by rw [BitVec.toNat_ofInt]; rfl
  rw [BitVec.toNat_and, h1, h2, show (4294967295 : Nat) = 2 ^ 32 - 1 from rfl, Nat.and_two_pow_sub_one_eq_mod]
  have h3 : ((z % 18446744073709551616).toNat % 2 ^ 32 : Nat) = (z % 4294967296).toNat := by omega
  rw [h3]
  exact IntWalk.i64_in _ (by omega)
theorem and_sp (z : Int) (d : Nat) (hd : (z % 4294967296).toNat = d) (x y : Operand) (w : World) : (do eqGuard .and 3 x y (.int .i64 z) (.int .i64 4294967295); binOp .and 3 (.int .i64 z) (.int .i64 4294967295) : Sem Value).run Tryz.prog w = .ok (.int .i64 (d : Int)) w := by
  have h := and_z z
  rw [hd] at h
  simp [go_sem]
  exact h
theorem sub_ii (u v : Int) (h1 : -9223372036854775808 ≤ u - v) (h2 : u - v ≤ 9223372036854775807) (x y : Operand) (w : World) : (do eqGuard .sub 3 x y (.int .i64 u) (.int .i64 v); binOp .sub 3 (.int .i64 u) (.int .i64 v) : Sem Value).run Tryz.prog w = .ok (.int .i64 (u - v)) w := by
  simp [go_sem]
  exact IntWalk.i64_in _ (by omega)
/-- how far a is behind b. -/
def spDiff (a b : Nat) : Int := if (((a % 4294967296 : Nat) : Int) - ((b % 4294967296 : Nat) : Int)) % 4294967296 ≥ 2147483648 then (((a % 4294967296 : Nat) : Int) - ((b % 4294967296 : Nat) : Int)) % 4294967296 - 4294967296 else (((a % 4294967296 : Nat) : Int) - ((b % 4294967296 : Nat) : Int)) % 4294967296
set_option maxRecDepth 100000 in
theorem spanOf (s n : Nat) (w : World) : Calls Tryz.prog 118 #[.int .i64 (s : Int), .int .i64 (n : Int)] w fun e w' => e = .returned (spV s n) ∧ w = w' := by
  go_enter Tryz.func118, Tryz.ntmps118
  go_wp2
  go_ret
  exact ⟨rfl, rfl⟩
theorem neq_e (u v : Int) (b : Bool) (h : (u != v) = b) (x y : Operand) (w : World) : (do eqGuard .neq 27 x y (.int .i64 u) (.int .i64 v); binOp .neq 27 (.int .i64 u) (.int .i64 v) : Sem Value).run Tryz.prog w = .ok (.bool b) w := by
  subst h
  simp [go_sem]
theorem order_i (u v : Nat) (hu : u < 9007199254740992) (hv : v < 9007199254740992) : FloatKind.f64.format.order (fl u) (fl v) = some (compare (u : Int) (v : Int)) := order_fl u v hu hv
theorem cmp_lt {u v : Nat} (h : u < v) : compare (u : Int) (v : Int) = .lt := by
  show compareOfLessAndEq _ _ = _
  unfold compareOfLessAndEq
  rw [if_pos (by omega)]
theorem cmp_eq (u : Nat) : compare (u : Int) (u : Int) = .eq := by
  show compareOfLessAndEq _ _ = _
  unfold compareOfLessAndEq
  rw [if_neg (by omega), if_pos rfl]
theorem cmp_gt {u v : Nat} (h : v < u) : compare (u : Int) (v : Int) = .gt := by
  show compareOfLessAndEq _ _ = _
  unfold compareOfLessAndEq
  rw [if_neg (by omega), if_neg (by omega)]
theorem geq_f (u : Nat) (hu : u < 9007199254740992) (x y : Operand) (w : World) : (do eqGuard .geq 193 x y (.float .f64 (fl u)) (.float .f64 0); binOp .geq 193 (.float .f64 (fl u)) (.float .f64 0) : Sem Value).run Tryz.prog w = .ok (.bool true) w := by
  have h := order_i u 0 hu (by decide)
  rw [fl_zero] at h
  have hb : (FloatKind.f64.format.order (fl u) 0 == some .gt || FloatKind.f64.format.order (fl u) 0 == some .eq) = true := by
    rw [h]
    rcases Nat.eq_zero_or_pos u with rfl | hp
    · rw [cmp_eq]; rfl
    · rw [cmp_gt hp]; rfl
  simp [go_sem]
  simpa using hb
theorem leq_f (u v : Nat) (b : Bool) (hb : decide (u ≤ v) = b) (hu : u < 9007199254740992) (hv : v < 9007199254740992) (x y : Operand) (w : World) : (do eqGuard .leq 193 x y (.float .f64 (fl u)) (.float .f64 (fl v)); binOp .leq 193 (.float .f64 (fl u)) (.float .f64 (fl v)) : Sem Value).run Tryz.prog w = .ok (.bool b) w := by
  have h := order_i u v hu hv
  have hb : (FloatKind.f64.format.order (fl u) (fl v) == some .lt || FloatKind.f64.format.order (fl u) (fl v) == some .eq) = b := by
    rw [h, ← hb]
    rcases Nat.lt_trichotomy u v with hp | rfl | hp
    · rw [cmp_lt hp, decide_eq_true (Nat.le_of_lt hp)]; rfl
    · rw [cmp_eq, decide_eq_true (Nat.le_refl _)]; rfl
    · rw [cmp_gt hp, decide_eq_false (by omega)]; rfl
  simp [go_sem]
  exact hb
theorem eql_f (u : Nat) (hu : u < 9007199254740992) (x y : Operand) (w : World) : (do eqGuard .eql 193 x y (.float .f64 (fl u)) (.float .f64 (fl u)); binOp .eql 193 (.float .f64 (fl u)) (.float .f64 (fl u)) : Sem Value).run Tryz.prog w = .ok (.bool true) w := by
  have h := order_i u u hu hu
  rw [cmp_eq] at h
  simp [go_sem, h]
theorem conv_f (u : Nat) (w : World) : (convert 3 193 (.int .i64 (u : Int))).run Tryz.prog w = .ok (.float .f64 (fl u)) w :=
  run_convert_int_float (P := Tryz.prog) w 3 193 .i64 .f64 (u : Int) (by kernel_rfl) (by kernel_rfl)
theorem conv_fi (u : Nat) (hu : u < 9007199254740992) (w : World) : (convert 193 3 (.float .f64 (fl u))).run Tryz.prog w = .ok (.int .i64 (u : Int)) w :=
  run_convert_float_int (P := Tryz.prog) w 193 3 .f64 .i64 (fl u) (u : Int) (by kernel_rfl) (by kernel_rfl) (fl_int u hu)
set_option maxRecDepth 100000 in
theorem spanWhole (n m : Nat) (hn : n < 9007199254740992) (hm : m < 9007199254740992) (w : World) : Calls Tryz.prog 138 #[.float .f64 (fl n), .int .i64 (m : Int)] w fun e w' => e = .returned (if n ≤ m then .tuple #[.int .i64 (n : Int), .bool true] else .tuple #[.int .i64 0, .bool false]) ∧ w = w' := by
  go_enter Tryz.func138, Tryz.ntmps138
  refine Has.start 22 [(0, .float .f64 (fl n)), (1, .int .i64 (m : Int))] rfl rfl ⟨rfl, rfl, trivial⟩ ?_
  intro a0 H0
  refine H0.rg 2 fun a1 H1 => nt ?_
  obtain ⟨b, hb⟩ : ∃ b, decide (n ≤ m) = b := ⟨_, rfl⟩
  refine H1.rg 1 fun a H => ?_
  refine H.bn 1 (geq_f n hn _ _ _) fun a H => ?_
  refine H.move (H.wt rfl rfl rfl) (.inl rfl) rfl rfl rfl fun a H => ?_
  refine H.move (H.wt rfl rfl rfl) (.inl rfl) rfl rfl rfl fun a H => ?_
  refine H.conv (H.wt rfl rfl rfl) rfl rfl rfl rfl (conv_f m _) fun a H => ?_
  refine H.bin (H.wt rfl rfl rfl) rfl rfl rfl rfl rfl (leq_f n m b hb hn hm _ _ _) fun a H => ?_
  refine H.pick gz rfl rfl rfl rfl rfl fun a H => ?_
  refine H.un gz rfl rfl rfl rfl (run_not b _) fun a H => nt (H.cond (t := !b) rfl ?_)
  cases b with
  | false =>
    have h : ¬ n ≤ m := of_decide_eq_false hb
    rw [if_neg h]
    refine H.rg 2 fun a H => nt (wp_ret ?_)
    repeat (first | (with_reducible refine block_ret ?_) | (with_reducible refine then_ret ?_))
    exact bodyPost_ret (results_pair rfl _ _ _ (H.at_ 4 _ rfl) (H.at_ 5 _ rfl)) H.df ⟨rfl, rfl⟩
  | true =>
    have h : n ≤ m := of_decide_eq_true hb
    rw [if_pos h]
    refine skip_wp (then_normal ?_)
    replace H := H.keep (l' := [(0, .float .f64 (fl n))]) ⟨rfl, trivial⟩
    refine H.rg 1 fun a H => ?_
    refine H.cv 1 (conv_fi n hn _) fun a H => nt ?_
    refine H.rg 2 fun a H => ?_
    refine H.cv 1 (conv_f n _) fun a H => ?_
    refine H.bn 2 (eql_f n hn _ _ _) fun a H => nt (wp_ret ?_)
    repeat (first | (with_reducible refine block_ret ?_) | (with_reducible refine then_ret ?_))
    exact bodyPost_ret (results_pair rfl _ _ _ (H.at_ 4 _ rfl) (H.at_ 5 _ rfl)) H.df ⟨rfl, rfl⟩
set_option maxRecDepth 100000 in
theorem spanParts (s n : Nat) (hs : s ≤ 4294967295) (hn : n ≤ 65536) (w : World) : Calls Tryz.prog 119 #[spV s n] w fun e w' => e = .returned (.tuple #[.int .i64 (s : Int), .int .i64 (n : Int), .int .i64 0]) ∧ w = w' := by
  go_enter Tryz.func119, Tryz.ntmps119
  refine Has.start 27 [(0, spV s n)] rfl rfl ⟨rfl, trivial⟩ ?_
  intro a0 H0
  have k1 := spanWhole s 4294967295 (by omega) (by decide) w
  have k2 := spanWhole n 65536 (by omega) (by decide) w
  rw [if_pos hs] at k1
  rw [if_pos hn] at k2
  refine H0.rg 3 fun a1 H1 => nt ?_
  refine H1.rg 1 fun a H => ?_
  refine H.any (w' := w) gz rfl rfl (.float .f64 (fl s)) (by intro cs b h; cases h) (by kernel_rfl) (by kernel_rfl) fun a H => ?_
  refine H.cq 1 k1 fun a H => ?_
  refine H.ex (r := .int .i64 (s : Int)) 0 fun a H => ?_
  refine H.ex (r := .bool true) 2 fun a H => nt ?_
  refine H.rg 1 fun a H => ?_
  refine H.any (w' := w) gz rfl rfl (.float .f64 (fl n)) (by intro cs b h; cases h) (by kernel_rfl) (by kernel_rfl) fun a H => ?_
  refine H.cq 1 k2 fun a H => ?_
  refine H.ex (r := .int .i64 (n : Int)) 0 fun a H => ?_
  refine H.ex (r := .bool true) 2 fun a H => nt ?_
  replace H := H.keep (l' := [(2, .int .i64 (s : Int)), (3, .int .i64 (n : Int)), (5, .bool true), (6, .bool true)]) ⟨rfl, rfl, rfl, rfl, trivial⟩
  refine H.rg 1 fun a H => ?_
  refine H.un gz rfl rfl rfl rfl (run_not true _) fun a H => ?_
  refine H.ms 1 fun a H => ?_
  refine H.move (H.wt rfl rfl rfl) (.inl rfl) rfl rfl rfl fun a H => ?_
  refine H.un (H.wt rfl rfl rfl) rfl rfl rfl rfl (run_not true _) fun a H => ?_
  refine H.pick gz rfl rfl rfl rfl rfl fun a H => nt (H.condF rfl (skip_wp (then_normal ?_)))
  refine H.rg 5 fun a H => nt (wp_ret ?_)
  repeat (first | (with_reducible refine block_ret ?_) | (with_reducible refine then_ret ?_))
  exact bodyPost_ret (results_three rfl _ _ _ _ (H.at_ 2 _ rfl) (H.at_ 3 _ rfl) (H.at_ 4 _ rfl)) H.df ⟨rfl, rfl⟩
set_option maxRecDepth 100000 in
theorem spanOf_yes (s n : Nat) (hs : s ≤ 4294967295) (hn : n ≤ 65536) (w : World) : Calls Tryz.prog 88 #[.int .i64 (s : Int), .int .i64 (n : Int)] w fun e w' => e = .returned (.tuple #[spV s n, .int .i64 0]) ∧ w = w' := by
  have h1 : inR (s : Int) 4294967295 = true := inR_iff.2 ⟨by omega, by omega⟩
  go_enter Tryz.func88, Tryz.ntmps88
  refine Has.start 20 [(0, .int .i64 (s : Int)), (1, .int .i64 (n : Int))] rfl rfl ⟨rfl, rfl, trivial⟩ ?_
  intro a0 H0
  refine H0.rg 2 fun a1 H1 => nt ?_
  refine H1.rg 1 fun a H => ?_
  refine H.cq 0 (h1 ▸ spanIs (s : Int) w) fun a H => ?_
  refine H.un gz rfl rfl rfl rfl (run_not true _) fun a H => ?_
  refine H.ms 1 fun a H => ?_
  refine H.move (H.wt rfl rfl rfl) (.inl rfl) rfl rfl rfl fun a H => ?_
  refine H.bin (H.wt rfl rfl rfl) rfl rfl rfl rfl rfl (lss_i (n : Int) 0 false (decide_eq_false (by omega)) _ _ _) fun a H => ?_
  refine H.pick gz rfl rfl rfl rfl rfl fun a H => ?_
  refine H.ms 1 fun a H => ?_
  refine H.move (H.wt rfl rfl rfl) (.inl rfl) rfl rfl rfl fun a H => ?_
  refine H.bin (H.wt rfl rfl rfl) rfl rfl rfl rfl rfl (gtr_i (n : Int) 65536 false (decide_eq_false (by omega)) _ _ _) fun a H => ?_
  refine H.pick gz rfl rfl rfl rfl rfl fun a H => nt (H.condF rfl (skip_wp (then_normal ?_)))
  refine H.rg 2 fun a H => ?_
  refine H.cq 2 (spanOf s n w) fun a H => nt (wp_ret ?_)
  repeat (first | (with_reducible refine block_ret ?_) | (with_reducible refine then_ret ?_))
  exact bodyPost_ret (results_pair rfl _ _ _ (H.at_ 4 _ rfl) (H.at_ 5 _ rfl)) H.df ⟨rfl, rfl⟩
end Go.Proofs.YtlacidnnankjlaaGreatDoor

/-
  span.Meet; what of data lies in a buffer's window.
-/
namespace Go.Proofs.YtlacidnnankjlaaGreatDoor
open Go.RowKit

end Go.Proofs.YtlacidnnankjlaaGreatDoor

/-
  ether.Get, ether.Parse.
-/
namespace Go.Proofs.YtlacidnnankjlaaGreatDoor
open Go.RowKit

/-- a frame (or none) and an error, its bytes in the call's own memory. -/
def EthAt (w : World) (r : Frm × Int) (v : Value) (w' : World) : Prop :=
  ∃ A c, v = .tuple #[.agg #[.int .i64 (r.1.d : Int), .int .i64 (r.1.s : Int), .int .i64 (r.1.t : Int), .slice A r.1.xs.length c], .int .i64 r.2] ∧ w'.ownsRow w.heap.size 5 1 (.slice A r.1.xs.length c) r.1.xs.length (r.1.xs.map bv) ∧ Below w.heap.size w w'
theorem size_frame : (Tryz.prog.info? 85).map (·.size) = some 4 := by kernel_rfl
theorem zero_frame (w : World) : (zeroValue 85).run Tryz.prog w = .ok (.agg ([.int .i64 0, .int .i64 0, .int .i64 0, nilV] : List Value).toArray) w := by kernel_rfl
theorem take_drop7 (xs : List UInt8) (k m : Nat) : (xs.take (k + m)).drop k = (xs.drop k).take m := by
  rw [List.drop_take, Nat.add_sub_cancel_left]
theorem cloneE (y : List UInt8) (n : Nat) (hn : y.length = n) (A : Option Addr) (c : Nat) (w : World) (hx : RB w w.heap.size A y) (hl : n ≤ 140737488351232) :
    Calls Tryz.prog 80 #[.slice A n c] w fun e w' => ∃ v, e = .returned v ∧ (∃ A' c', v = .slice A' n c' ∧ w'.ownsRow w.heap.size 5 1 (.slice A' n c') n (y.map bv) ∧ Below w.heap.size w w') :=
  (clone y n hn A c w hx hl).mono fun _ _ ⟨A', c', h1, h2, h3⟩ => ⟨_, h1, A', c', rfl, h2, h3⟩
theorem shl_8 (u : Nat) (h : u < 36028797018963968) (x y : Operand) (w : World) : (do eqGuard .shl 3 x y (.int .i64 (u : Int)) (.int .u64 8); binOp .shl 3 (.int .i64 (u : Int)) (.int .u64 8) : Sem Value).run Tryz.prog w = .ok (.int .i64 ((u : Int) * 256)) w := by
  have : IntKind.i64.wrap ((u : Int) * 256) = (u : Int) * 256 := IntWalk.i64_in _ (by omega)
  simp [go_sem, this]
theorem conv_xi (x : UInt8) (w : World) : (convert 5 3 (bv x)).run Tryz.prog w = .ok (.int .i64 (x.toNat : Int)) w := by
  have hx := x.toNat_lt
  have : IntKind.i64.wrap (x.toNat : Int) = (x.toNat : Int) := IntWalk.i64_in _ (by omega)
  simp [go_sem, this]
theorem or_x (u : Nat) (x : UInt8) (h : u < 36028797018963968) (p q : Operand) (w : World) : (do eqGuard .or 3 p q (.int .i64 ((u : Int) * 256)) (.int .i64 (x.toNat : Int)); binOp .or 3 (.int .i64 ((u : Int) * 256)) (.int .i64 (x.toNat : Int)) : Sem Value).run Tryz.prog w = .ok (.int .i64 ((u * 256 + x.toNat : Nat) : Int)) w := by
  have := or_shl u x h
  simp [go_sem]
  rw [this]
  simp
set_option maxRecDepth 100000 in
theorem ethGet (xs : List UInt8) (n : Nat) (hl : xs.length = n) (A : Option Addr) (c : Nat) (w : World) (hx : RB w w.heap.size A xs) (hn : n ≤ 7) :
    Calls Tryz.prog 85 #[.slice A n c] w fun e w' => e = .returned (.int .i64 ((ofB xs : Nat) : Int)) ∧ w = w' := by
  subst hl
  go_enter Tryz.func85, Tryz.ntmps85
  refine Has.start 18 [(0, .slice A xs.length c)] rfl rfl ⟨rfl, trivial⟩ ?_
  intro a0 H0
  refine H0.rg 1 fun a H => nt ?_
  refine H.rg 1 fun a H => ?_
  refine H.len gz rfl rfl rfl rfl Tryz.underlying31 fun a H => ?_
  refine H.ms 1 fun a H => nt ?_
  replace H := H.keep (l' := [(2, .int .i64 ((ofB (xs.take 0) : Nat) : Int)), (5, .slice A xs.length c), (6, .int .i64 (xs.length : Int)), (7, .int .i64 ((0 : Nat) : Int))]) ⟨rfl, rfl, rfl, rfl, trivial⟩
  refine wp_block ?_
  refine wp_loop_up xs.length (fun k a w' => Has a 18 [(2, .int .i64 ((ofB (xs.take k) : Nat) : Int)), (5, .slice A xs.length c), (6, .int .i64 (xs.length : Int)), (7, .int .i64 ((k : Nat) : Int))] ∧ w = w') ⟨H, rfl⟩ ?_
  clear H0 H
  rintro k a _ hk ⟨H, rfl⟩
  refine H.rg 0 fun a H => ?_
  by_cases hlt : k < xs.length
  rotate_left
  · refine H.bb 0 rfl rfl rfl rfl rfl rfl (lss_i _ _ false (by rw [decide_eq_false_iff_not]; omega) _ _ _) rfl fun a H => nt (wp_seq (H.condF rfl ?_))
    refine wp_exit ?_
    repeat (with_reducible refine then_exit ?_)
    refine block_leave (then_normal ?_)
    refine H.rg 2 fun a H => nt (wp_ret ?_)
    repeat (first | (with_reducible refine block_ret ?_) | (with_reducible refine then_ret ?_))
    have : k = xs.length := by omega
    subst this
    refine bodyPost_ret (results_tmp rfl _ _ _) H.df ⟨?_, rfl⟩
    rw [show a.tmps.getD 2 undef = .int .i64 ((ofB (xs.take xs.length) : Nat) : Int) from H.at_ 2 _ rfl, List.take_length]
  refine H.bb 0 rfl rfl rfl rfl rfl rfl (lss_i _ _ true (by rw [decide_eq_true_iff]; omega) _ _ _) rfl fun a H => nt (wp_seq (H.condT rfl ?_))
  refine skip_wp (then_normal ?_)
  obtain ⟨b, o, x, rfl, hbB, hxk, hcell⟩ := hx.get hlt
  have hs : ofB (xs.take (k + 1)) = ofB (xs.take k) * 256 + x.toNat := by rw [take_snoc? xs k x hxk, ofB_snoc]
  have ht1 : ofB (xs.take k) < 36028797018963968 := by
    have h1 := ofB_lt (xs.take k)
    have h2 : (256 : Nat) ^ (xs.take k).length ≤ 256 ^ 6 := Nat.pow_le_pow_right (by omega) (by rw [List.length_take]; omega)
    omega
  refine wp_seq_join (fun a w' => Has a 18 [(2, .int .i64 ((ofB (xs.take (k + 1)) : Nat) : Int)), (5, .slice (some ⟨b, o, none⟩) xs.length c), (6, .int .i64 (xs.length : Int)), (7, .int .i64 ((k : Nat) : Int))] ∧ w = w') ?_ ?_
  · refine wp_block ?_
    refine H.rg 0 fun a H => ?_
    refine H.index gz rfl rfl rfl rfl rfl (index_1 31 Tryz.underlying31 (fun _ => by kernel_rfl) b o xs.length c k hlt _) fun a H => ?_
    refine H.ld 1 (load1_u _ _ _ _ hcell) fun a H => nt ?_
    refine H.rg 1 fun a H => ?_
    refine H.bn 1 (shl_8 _ ht1 _ _ _) fun a H => ?_
    refine H.cv 0 (conv_xi x _) fun a H => ?_
    refine H.bn 1 (or_x _ x ht1 _ _ _) fun a H => wpList_nil (block_normal (then_normal ?_))
    rw [hs]
    exact ⟨H.keep ⟨rfl, rfl, rfl, rfl, trivial⟩, rfl⟩
  · rintro a _ ⟨H, rfl⟩
    refine H.rg 0 fun a H => ?_
    refine H.bb 1 rfl rfl rfl rfl rfl rfl (succ_i k (by omega) _ _ _) rfl fun a H => nt ?_
    exact ⟨hlt, H.keep ⟨rfl, rfl, rfl, rfl, trivial⟩, rfl⟩
set_option maxRecDepth 100000 in
set_option maxHeartbeats 1600000 in
theorem ethParse (xs : List UInt8) (n : Nat) (hn : xs.length = n) (A : Option Addr) (c : Nat) (hnc : n ≤ c) (w : World) (hx : RB w w.heap.size A xs) (hl : n ≤ 140737488351232) :
    Calls Tryz.prog 50 #[.slice A n c] w fun e w' => ∃ v, e = .returned v ∧ EthAt w (frOut xs) v w' := by
  go_enter Tryz.func50, Tryz.ntmps50
  refine Has.start 27 [(0, .slice A n c)] rfl rfl ⟨rfl, trivial⟩ ?_
  intro a0 H0
  have O0 := Own.start w
  refine rl ?_
  refine H0.al O0 1 zero_frame fun a1 w1 O1 H1 => nt ?_
  generalize hg : w.heap.size = g at O1 H1
  refine wp_seq (wp_block ?_)
  refine H1.rg 1 fun a2 H2 => ?_
  refine H2.len gz rfl rfl rfl rfl Tryz.underlying31 fun a3 H3 => ?_
  by_cases h14 : n < 14
  · refine H3.bb 1 rfl rfl rfl rfl rfl rfl (lss_i _ _ true (by rw [decide_eq_true_iff]; omega) _ _ _) rfl fun a4 H4 => nt (H4.condT rfl ?_)
    refine rl ?_
    refine H4.any (w' := w1) gz rfl rfl (.agg ([.int .i64 0, .int .i64 0, .int .i64 0, nilV] : List Value).toArray) (by intro cs b h; cases h) (by kernel_rfl) (by kernel_rfl) fun a5 H5 => ?_
    refine H5.st O1 0 1 (L := [.int .i64 0, .int .i64 0, .int .i64 0, nilV]) (fun a6 w2 O2 H6 => nt (wp_ret ?_)) size_frame
    repeat (first | (with_reducible refine block_ret ?_) | (with_reducible refine then_ret ?_))
    refine bodyPost_ret (results_two Tryz.results50 _ _ _ (H6.at_ 2 _ rfl) (H6.at_ 3 _ rfl) (O2.get 0 rfl) Tryz.underlying85 rfl _ size_frame rfl) H6.df ⟨_, rfl, ?_⟩
    unfold frOut
    rw [if_pos (by omega)]
    exact ⟨none, 0, rfl, World.ownsRow_nil _ _ _ _, hg ▸ O2.bel⟩
  refine H3.bb 1 rfl rfl rfl rfl rfl rfl (lss_i _ _ false (by rw [decide_eq_false_iff_not]; omega) _ _ _) rfl fun a4 H4 => nt (H4.condF rfl ?_)
  refine H4.rg 1 fun a5 H5 => ?_
  refine H5.len gz rfl rfl rfl rfl Tryz.underlying31 fun a6 H6 => ?_
  by_cases h15 : 1514 < n
  · refine H6.bb 1 rfl rfl rfl rfl rfl rfl (gtr_i _ _ true (by rw [decide_eq_true_iff]; omega) _ _ _) rfl fun a7 H7 => nt (H7.condT rfl ?_)
    refine rl ?_
    refine H7.any (w' := w1) gz rfl rfl (.agg ([.int .i64 0, .int .i64 0, .int .i64 0, nilV] : List Value).toArray) (by intro cs b h; cases h) (by kernel_rfl) (by kernel_rfl) fun a8 H8 => ?_
    refine H8.st O1 0 1 (L := [.int .i64 0, .int .i64 0, .int .i64 0, nilV]) (fun a9 w2 O2 H9 => nt (wp_ret ?_)) size_frame
    repeat (first | (with_reducible refine block_ret ?_) | (with_reducible refine then_ret ?_))
    refine bodyPost_ret (results_two Tryz.results50 _ _ _ (H9.at_ 2 _ rfl) (H9.at_ 3 _ rfl) (O2.get 0 rfl) Tryz.underlying85 rfl _ size_frame rfl) H9.df ⟨_, rfl, ?_⟩
    unfold frOut
    rw [if_neg (by omega), if_pos (by omega)]
    exact ⟨none, 0, rfl, World.ownsRow_nil _ _ _ _, hg ▸ O2.bel⟩
  refine H6.bb 1 rfl rfl rfl rfl rfl rfl (gtr_i _ _ false (by rw [decide_eq_false_iff_not]; omega) _ _ _) rfl fun a7 H7 => nt (H7.condF rfl (skip_wp (block_normal (then_normal ?_))))
  replace H7 := H7.keep (l' := [(0, .slice A n c), (2, .pointer (some ⟨g, 0, none⟩))]) ⟨rfl, rfl, trivial⟩
  have l1 : (xs.take 6).length = 6 := by rw [List.length_take]; omega
  have l2 : ((xs.drop 6).take 6).length = 6 := by rw [List.length_take, List.length_drop]; omega
  have l3 : ((xs.drop 12).take 2).length = 2 := by rw [List.length_take, List.length_drop]; omega
  have l4 : (xs.drop 14).length = n - 14 := by rw [List.length_drop]; omega
  have bl : ∀ {w' : World}, Own w g [(g, [.int .i64 0, .int .i64 0, .int .i64 0, nilV])] w' → Below w.heap.size w w' := fun h => hg ▸ h.bel
  have r2 : ∀ {w' : World}, Below w.heap.size w w' → RB w' w'.heap.size (if c = 6 then A else A.map (·.add 6)) ((xs.drop 6).take 6) := fun h => by
    have := ((hx.next h).take 12).cut (k := 6) (cap := c) (by rw [List.length_take]; omega) (by rw [List.length_take]; omega)
    rw [show (12 : Nat) = 6 + 6 from rfl, take_drop7] at this
    exact this
  have r3 : ∀ {w' : World}, Below w.heap.size w w' → RB w' w'.heap.size (if c = 12 then A else A.map (·.add 12)) ((xs.drop 12).take 2) := fun h => by
    have := ((hx.next h).take 14).cut (k := 12) (cap := c) (by rw [List.length_take]; omega) (by rw [List.length_take]; omega)
    rw [show (14 : Nat) = 12 + 2 from rfl, take_drop7] at this
    exact this
  have r4 : ∀ {w' : World}, Below w.heap.size w w' → RB w' w'.heap.size (if c = 14 then A else A.map (·.add 14)) (xs.drop 14) := fun h => (hx.next h).cut (k := 14) (cap := c) (by omega) (by omega)
  refine H7.sg (fun w' => Own w g [(g, [.int .i64 0, .int .i64 0, .int .i64 0, nilV])] w') O1.drew [0, 2]
    [ec 0 14 (.slice A n c), ec 1 15 (.slice A 6 c), ec 2 16 (.int .i64 ((num2 xs 0 6 : Nat) : Int)), ec 3 17 (.slice A n c), ec 4 18 (.slice (if c = 6 then A else A.map (·.add 6)) 6 (c - 6)), ec 5 19 (.int .i64 ((num2 xs 6 6 : Nat) : Int)), ec 6 20 (.slice A n c), ec 7 21 (.slice (if c = 12 then A else A.map (·.add 12)) 2 (c - 12)), ec 8 22 (.int .i64 ((num2 xs 12 2 : Nat) : Int)),
     ec 9 23 (.slice A n c), ec 10 24 (.slice (if c = 14 then A else A.map (·.add 14)) (n - 14) (c - 14)), ec 14 3 (.int .i64 0)] rfl ?_
  refine St.call 11 ⟨jm, jh fun _ => slice_h A n c 6 (by omega) hnc _, jq fun w' h => ethGet (xs.take 6) 6 l1 A c w' ((hx.next (bl h)).take 6) (by decide), jm, js2 fun _ => slice_lh A n c 6 12 (by decide) (by omega) hnc _, jq fun w' h => ethGet _ 6 l2 _ _ w' (r2 (bl h)) (by decide), jm, js2 fun _ => slice_lh A n c 12 14 (by decide) (by omega) hnc _, jq fun w' h => ethGet _ 2 l3 _ _ w' (r3 (bl h)) (by decide), jm, js1 fun _ => slice_lo A n c 14 (by omega) hnc _, jm, trivial⟩
    (fun wy h => cloneE (xs.drop 14) (n - 14) l4 _ (c - 14) wy (r4 (bl h)) (by omega)) ?_
  rintro wy _ wz hh ⟨A1, c1, rfl, hO, hb⟩
  have hgy : g < wy.heap.size := hh.lt 0 rfl
  have Oz := hh.call hb
  clear hb
  generalize wy.heap.size = bb at hO hgy
  refine nx (fun w' => Own w g [(g, [.int .i64 0, .int .i64 0, .int .i64 0, nilV])] w' ∧ w'.ownsRow bb 5 1 (.slice A1 (n - 14) c1) (n - 14) ((xs.drop 14).map bv)) [ec 12 26 (.agg ([.int .i64 ((num2 xs 0 6 : Nat) : Int), .int .i64 ((num2 xs 6 6 : Nat) : Int), .int .i64 ((num2 xs 12 2 : Nat) : Int), .slice A1 (n - 14) c1] : List Value).toArray)] [] ⟨Oz, hO⟩ ?_
  refine St.sto 13 ⟨ja (fun _ => by kernel_rfl), jm, trivial⟩ ?_
  rintro a8 wu H8 _ ⟨Ou, hOu⟩
  obtain ⟨w', hr, hg2, hs2, hC2⟩ := (Ou.get 0 rfl).sto (L := [.int .i64 ((num2 xs 0 6 : Nat) : Int), .int .i64 ((num2 xs 6 6 : Nat) : Int), .int .i64 ((num2 xs 12 2 : Nat) : Int), .slice A1 (n - 14) c1]) size_frame rfl rfl rfl
  refine ⟨w', run_store rfl (H8.ev rfl) (H8.ev rfl) hr, nx0 (fun w' => Own w g [(g, [.int .i64 ((num2 xs 0 6 : Nat) : Int), .int .i64 ((num2 xs 6 6 : Nat) : Int), .int .i64 ((num2 xs 12 2 : Nat) : Int), .slice A1 (n - 14) c1])] w' ∧ w'.ownsRow bb 5 1 (.slice A1 (n - 14) c1) (n - 14) ((xs.drop 14).map bv)) [] [] ⟨Ou.store 0 rfl hg2 hs2 hC2, hOu.kept hg2 (.inr (own_ne hOu (.inl hgy)).symm)⟩ ?_⟩
  refine St.fin ⟨jm, trivial⟩ ?_ (hF := .inl rfl)
  rintro a9 w3 H9 _ ⟨O3, hO3⟩
  refine then_normal (wp_ret ?_)
  repeat (first | (with_reducible refine block_ret ?_) | (with_reducible refine then_ret ?_))
  refine bodyPost_ret (results_two Tryz.results50 _ _ _ (H9.at_ 2 _ rfl) (H9.at_ 3 _ rfl) (O3.get 0 rfl) Tryz.underlying85 rfl _ size_frame rfl) H9.df ⟨_, rfl, ?_⟩
  unfold frOut
  rw [if_neg (by omega), if_neg (by omega)]
  refine ⟨A1, c1, ?_, ?_, hg ▸ O3.bel⟩
  · simp only [l4]
  · simp only [l4]
    exact own_base hO3 (by omega)
end Go.Proofs.YtlacidnnankjlaaGreatDoor

/-
  trace.Segment: a frame's segment, of whatever bytes.
-/
namespace Go.Proofs.YtlacidnnankjlaaGreatDoor
open Go.RowKit

/-- the packet and the segment that a frame carries. -/
def segIn (b : List UInt8) : Option (Pk × Sg) :=
  if (frOut b).2 ≠ 0 ∨ (frOut b).1.t ≠ 2048 then none
  else if (parseOut (frOut b).1.xs).2 ≠ 0 ∨ (parseOut (frOut b).1.xs).1.p ≠ 6 then none
  else if (segOut (parseOut (frOut b).1.xs).1.s (parseOut (frOut b).1.xs).1.d (parseOut (frOut b).1.xs).1.xs).2 ≠ 0 then none
  else some ((parseOut (frOut b).1.xs).1, (segOut (parseOut (frOut b).1.xs).1.s (parseOut (frOut b).1.xs).1.d (parseOut (frOut b).1.xs).1.xs).1)
abbrev pkL (p : Pk) (v : Value) : List Value := [.int .i64 p.s, .int .i64 p.d, .int .i64 p.p, .int .i64 p.t, .int .i64 p.i, v]
abbrev sgL (q : Sg) (v : Value) : List Value := [.int .i64 q.sp, .int .i64 q.dp, .int .i64 q.sq, .int .i64 q.ak, .int .i64 q.fl, .int .i64 q.wn, v]
/-- what 'Segment' answers. -/
def SegInV (W : World) : Option (Pk × Sg) → Value → World → Prop
  | none, v, w => v = .tuple #[.agg (pkL .zero nilV).toArray, .agg (sgL .zero nilV).toArray, .bool false] ∧ Below W.heap.size W w
  | some (p, q), v, w => ∃ A0 n0 c0 A c, v = .tuple #[.agg (pkL p (.slice A0 n0 c0)).toArray, .agg (sgL q (.slice A q.xs.length c)).toArray, .bool true] ∧ w.ownsRow W.heap.size 5 1 (.slice A q.xs.length c) q.xs.length (q.xs.map bv) ∧ Below W.heap.size W w
theorem size_pk27 : (Tryz.prog.info? 89).map (·.size) = some 6 := by kernel_rfl
theorem zero_pk27 (w : World) : (zeroValue 89).run Tryz.prog w = .ok (.agg (pkL .zero nilV).toArray) w := by kernel_rfl
theorem size_sg27 : (Tryz.prog.info? 36).map (·.size) = some 7 := by kernel_rfl
theorem zero_sg27 (w : World) : (zeroValue 36).run Tryz.prog w = .ok (.agg (sgL .zero nilV).toArray) w := by kernel_rfl
theorem parse_le (xs : List UInt8) : (parseOut xs).1.xs.length ≤ xs.length := by
  unfold parseOut
  repeat' split
  all_goals first | (simp [Pk.zero]; done) | skip
  simp [parsed]
  omega
theorem neq_k (u v : Int) (b : Bool) (h : (u != v) = b) (x y : Operand) (w : World) : (do eqGuard .neq 27 x y (.int .i64 u) (.int .i64 v); binOp .neq 27 (.int .i64 u) (.int .i64 v) : Sem Value).run Tryz.prog w = .ok (.bool b) w := by
  subst h
  simp [go_sem]
theorem ipParseT (xs : List UInt8) (A : Option Addr) (c : Nat) (hnc : xs.length ≤ c) (w : World) (hx : RB w w.heap.size A xs) (hn : xs.length ≤ 140737488351232) :
    Calls Tryz.prog 86 #[.slice A xs.length c] w fun e w' => ∃ v, e = .returned v ∧ ∃ A' c', v = .tuple #[.agg (pkL (parseOut xs).1 (.slice A' (parseOut xs).1.xs.length c')).toArray, .int .i64 (parseOut xs).2] ∧ w'.ownsRow w.heap.size 5 1 (.slice A' (parseOut xs).1.xs.length c') (parseOut xs).1.xs.length ((parseOut xs).1.xs.map bv) ∧ Below w.heap.size w w' :=
  (ipParse xs xs.length rfl A c hnc w hx hn).mono fun _ _ ⟨A', c', h1, h2, h3⟩ => ⟨_, h1, A', c', rfl, h2, h3⟩
theorem segParseT (src dst : Int) (xs : List UInt8) (A : Option Addr) (c : Nat) (hnc : xs.length ≤ c) (w : World) (hx : RB w w.heap.size A xs) (hn : xs.length ≤ 140737488351232) :
    Calls Tryz.prog 87 #[.int .i64 src, .int .i64 dst, .slice A xs.length c] w fun e w' => ∃ v, e = .returned v ∧ ∃ A' c', v = .tuple #[.agg (sgL (segOut src dst xs).1 (.slice A' (segOut src dst xs).1.xs.length c')).toArray, .int .i64 (segOut src dst xs).2] ∧ w'.ownsRow w.heap.size 5 1 (.slice A' (segOut src dst xs).1.xs.length c') (segOut src dst xs).1.xs.length ((segOut src dst xs).1.xs.map bv) ∧ Below w.heap.size w w' :=
  (segParse src dst xs xs.length rfl A c hnc w hx hn).mono fun _ _ ⟨A', c', h1, h2, h3⟩ => ⟨_, h1, A', c', rfl, h2, h3⟩
theorem results_cct {P : Program} {fn : Func} {p q r : Tmp} {T U : TypeId} (h : fn.results = #[.cell p T, .cell q U, .tmp r]) (tmps : Array Value) {u v z : Value} {x y : Addr} {w : World} (hp : tmps.getD p undef = .pointer (some x)) (hq : tmps.getD q undef = .pointer (some y)) (hr : tmps.getD r undef = z) (h1 : (loadVar T x).run P w = .ok u w) (h2 : (loadVar U y).run P w = .ok v w) : (results fn tmps).run P w = .ok (.tuple #[u, v, z]) w := by
  have hp' : tmps[p]?.getD undef = .pointer (some x) := by simpa using hp
  have hq' : tmps[q]?.getD undef = .pointer (some y) := by simpa using hq
  have hr' : tmps[r]?.getD undef = z := by simpa using hr
  simp [results, h, hp', hq', hr', asAddr, h1, h2]
theorem loadv_pk {w : World} {g : Nat} {L : List Value} (hC : Cells w g L) (hl : L.length = 6) : (loadVar 89 ⟨g, 0, none⟩).run Tryz.prog w = .ok (.agg L.toArray) w :=
  run_loadVar_mid w g 0 _ L _ hC.range Tryz.underlying89 rfl (by rw [hl]; exact size_pk27)
theorem loadv_sg {w : World} {g : Nat} {L : List Value} (hC : Cells w g L) (hl : L.length = 7) : (loadVar 36 ⟨g, 0, none⟩).run Tryz.prog w = .ok (.agg L.toArray) w :=
  run_loadVar_mid w g 0 _ L _ hC.range Tryz.underlying36 rfl (by rw [hl]; exact size_sg27)
set_option maxRecDepth 100000 in
set_option maxHeartbeats 3200000 in
theorem traceSegment (xs : List UInt8) (A : Option Addr) (c : Nat) (hnc : xs.length ≤ c) (w : World) (hx : RB w w.heap.size A xs) (hl : xs.length ≤ 140737488351232) :
    Calls Tryz.prog 51 #[.slice A xs.length c] w fun e w' => ∃ v, e = .returned v ∧ SegInV w (segIn xs) v w' := by
  go_enter Tryz.func51, Tryz.ntmps51
  refine Has.start 48 [(0, .slice A xs.length c)] rfl rfl ⟨rfl, trivial⟩ ?_
  intro a0 H0
  have O0 := Own.start w
  refine rl ?_
  refine H0.al O0 0 zero_pk27 fun a w1 O1 H => ?_
  generalize hg2 : w.heap.size = g2 at O1 H
  refine H.al O1 1 zero_sg27 fun a w2 O2 H => nt ?_
  generalize w1.heap.size = g3 at O2 H
  have bl : ∀ {bs : List (Nat × List Value)} {w'}, Own w g2 bs w' → Below w.heap.size w w' := fun h => hg2 ▸ h.bel
  replace H := H.keep (l' := [(0, .slice A xs.length c), (2, .pointer (some ⟨g2, 0, none⟩)), (3, .pointer (some ⟨g3, 0, none⟩))]) ⟨rfl, rfl, rfl, trivial⟩
  obtain ⟨ans, hans⟩ : ∃ ans, segIn xs = ans := ⟨_, rfl⟩
  refine wp_scope_one (k := 0) rfl (fun a w' => ans = none ∧ Has a 48 [(2, .pointer (some ⟨g2, 0, none⟩)), (3, .pointer (some ⟨g3, 0, none⟩))] ∧ ∃ L3 L2, L3.length = 7 ∧ L2.length = 6 ∧ Own w g2 [(g3, L3), (g2, L2)] w') (fun _ _ => 0) ?_ ?_
  rotate_left
  · clear H H0
    rintro a w3 ⟨rfl, H, L3, L2, hl3, hl2, O3⟩
    refine rl ?_
    refine H.any (w' := w3) gz rfl rfl (.agg (pkL .zero nilV).toArray) (by intro cs b h; cases h) (by kernel_rfl) (by kernel_rfl) fun a H => ?_
    refine H.any (w' := w3) gz rfl rfl (.agg (sgL .zero nilV).toArray) (by intro cs b h; cases h) (by kernel_rfl) (by kernel_rfl) fun a H => ?_
    refine H.st O3 1 0 (L := pkL .zero nilV) (L0 := L2) (fun a w4 O4 H => ?_) size_pk27 (h0 := hl2)
    refine H.st O4 0 1 (L := sgL .zero nilV) (L0 := L3) (fun a w5 O5 H => nt (wp_ret ?_)) size_sg27 (h0 := hl3)
    repeat (first | (with_reducible refine jump_ret ?_) | (with_reducible refine then_ret ?_))
    exact bodyPost_ret (results_cct rfl _ (H.at_ 2 _ rfl) (H.at_ 3 _ rfl) (H.at_ 4 _ rfl) (loadv_pk (O5.get 1 rfl) rfl) (loadv_sg (O5.get 0 rfl) rfl)) H.df ⟨_, rfl, by rw [hans]; exact ⟨rfl, bl O5⟩⟩
  intro hpass
  refine H.rg 1 fun a H => ?_
  refine H.cl (ethParse xs xs.length rfl A c hnc w2 (hx.next (bl O2)) hl) ?_
  have hfl := frOut_len xs
  have hans0 := hans
  unfold segIn at hans
  generalize frOut xs = fo at hans hfl
  obtain ⟨fr, fe⟩ := fo
  replace hfl : fr.xs.length ≤ xs.length := hfl
  rintro a _ w3 ⟨A1, c1, rfl, hO1, hb3⟩ H
  have O3 := O2.call hb3
  have hc1 := own_cap hO1
  refine H.ms 1 fun a H => ?_
  refine H.ex (r := .agg ([.int .i64 (fr.d : Int), .int .i64 (fr.s : Int), .int .i64 (fr.t : Int), .slice A1 fr.xs.length c1] : List Value).toArray) 0 fun a H => ?_
  refine H.ex (r := .int .i64 fe) 0 fun a H => ?_
  refine H.nk O3 1 (L := [.int .i64 (fr.d : Int), .int .i64 (fr.s : Int), .int .i64 (fr.t : Int), .slice A1 fr.xs.length c1]) rfl zero_frame size_frame fun a w4 hb4 O4 _ H => nt ?_
  have hO4 := own_below hO1 hb4
  have hg3 : g3 < w2.heap.size := O2.lt 0 rfl
  have hg23 : g2 < w2.heap.size := O2.lt 1 rfl
  generalize w3.heap.size = g5 at O4 H
  replace H := H.keep (l' := [(2, .pointer (some ⟨g2, 0, none⟩)), (3, .pointer (some ⟨g3, 0, none⟩)), (5, .pointer (some ⟨g5, 0, none⟩)), (6, .int .i64 fe)]) ⟨rfl, rfl, rfl, rfl, trivial⟩
  have drop1 : ∀ {x : Nat × List Value} {bs : List (Nat × List Value)} {w'}, Own w g2 (x :: bs) w' → Own w g2 bs w' := fun h => h.sub (List.sublist_cons_self _ _)
  by_cases he : fe = 0
  rotate_left
  · have hn : ans = none := by rw [← hans, if_pos (.inl he)]
    refine H.tb (Own w g2 [(g5, [.int .i64 (fr.d : Int), .int .i64 (fr.s : Int), .int .i64 (fr.t : Int), .slice A1 fr.xs.length c1]), (g3, sgL .zero nilV), (g2, pkL .zero nilV)]) (fun _ _ h hb => h.call hb) O4 [ec 0 12 (.int .i64 fe), ec 1 13 (.bool true), ec 2 14 (.bool true), ec 3 15 undef, ec 4 16 undef, ec 5 17 undef, ec 6 18 (.bool true)] rfl ⟨jm, jb fun _ => neq_k fe 0 true (by rw [bne_iff_ne]; exact he) _ _ _, jm, jo, jo, jo, jp, trivial⟩ ?_
    intro a w5 H O5
    refine then_normal (H.condT rfl (wp_goto ?_))
    repeat (with_reducible refine then_goto ?_)
    exact jump_goto ⟨hn, H.keep ⟨rfl, rfl, trivial⟩, _, _, rfl, rfl, drop1 O5⟩
  subst he
  obtain ⟨z, hz⟩ : ∃ z, ((fr.t : Int) != 2048) = z := ⟨_, rfl⟩
  refine H.tb (fun w' => Own w g2 [(g5, [.int .i64 (fr.d : Int), .int .i64 (fr.s : Int), .int .i64 (fr.t : Int), .slice A1 fr.xs.length c1]), (g3, sgL .zero nilV), (g2, pkL .zero nilV)] w' ∧ Below w4.heap.size w4 w') (fun _ _ h hb => ⟨h.1.call hb, h.2.trans (hb.mono h.2.size)⟩) ⟨O4, Below.refl _ _⟩ [ec 0 12 (.int .i64 0), ec 1 13 (.bool false), ec 2 14 (.bool false), ec 3 15 (.pointer (some ⟨g5, 2, none⟩)), ec 4 16 (.int .i64 (fr.t : Int)), ec 5 17 (.bool z), ec 6 18 (.bool z)] rfl ⟨jm, jb fun _ => neq_k 0 0 false rfl _ _ _, jm, jm, jl fun _ h => h.1.li 0 2, jb fun _ => neq_3 (fr.t : Int) 2048 z hz _ _ _, jp, trivial⟩ ?_
  rintro a w5 H ⟨O5, hb5⟩
  have hO5 := own_below hO4 hb5
  cases z with
  | true =>
    have hn : ans = none := by rw [← hans, if_pos (.inr (by have := bne_iff_ne.1 hz; show fr.t ≠ 2048; omega))]
    refine then_normal (H.condT rfl (wp_goto ?_))
    repeat (with_reducible refine then_goto ?_)
    exact jump_goto ⟨hn, H.keep ⟨rfl, rfl, trivial⟩, _, _, rfl, rfl, drop1 O5⟩
  | false =>
  have ht : fr.t = 2048 := by
    rw [bne_eq_false_iff_eq] at hz
    omega
  rw [if_neg (by rintro (h | h); exact h rfl; exact h ht)] at hans
  refine then_normal (H.condF rfl (skip_wp (then_normal ?_)))
  replace H := H.keep (l' := [(2, .pointer (some ⟨g2, 0, none⟩)), (3, .pointer (some ⟨g3, 0, none⟩)), (5, .pointer (some ⟨g5, 0, none⟩))]) ⟨rfl, rfl, rfl, trivial⟩
  refine H.rg 1 fun a H => ?_
  refine H.ld 0 (load1_31 _ _ _ _ _ _ ((O5.get 0 rfl).get 3 _ rfl)) fun a H => ?_
  have hw5 : w2.heap.size ≤ w5.heap.size := Nat.le_trans hb3.size (Nat.le_trans hb4.size hb5.size)
  refine H.cl (ipParseT fr.xs A1 c1 hc1 w5 (rb_of_own rfl hO5 hw5) (by omega)) ?_
  have hpl := parse_le fr.xs
  generalize parseOut fr.xs = po at hans hpl
  obtain ⟨pk, pe⟩ := po
  replace hpl : pk.xs.length ≤ fr.xs.length := hpl
  rintro a _ w6 ⟨A2, c2, rfl, hO6, hb6⟩ H
  have O6 := O5.call hb6
  have hc2 := own_cap hO6
  refine H.ms 1 fun a H => ?_
  refine H.ex (r := .agg (pkL pk (.slice A2 pk.xs.length c2)).toArray) 0 fun a H => ?_
  refine H.ex (r := .int .i64 pe) 0 fun a H => ?_
  refine H.storeS rfl rfl rfl rfl rfl (O6.get 2 rfl) size_pk27 rfl rfl rfl fun a w7 H hg7 hs7 hC7 => ?_
  have O7 := O6.store 2 rfl hg7 hs7 hC7
  have hO7 := hO6.kept hg7 (.inr (own_ne hO6 (.inl (Nat.lt_of_lt_of_le hg23 hw5))).symm)
  refine H.ms 1 fun a H => nt ?_
  replace H := H.keep (l' := [(2, .pointer (some ⟨g2, 0, none⟩)), (3, .pointer (some ⟨g3, 0, none⟩)), (6, .int .i64 pe)]) ⟨rfl, rfl, rfl, trivial⟩
  replace O7 : Own w g2 [(g3, sgL .zero nilV), (g2, pkL pk (.slice A2 pk.xs.length c2))] w7 := drop1 O7
  by_cases he : pe = 0
  rotate_left
  · have hn : ans = none := by rw [← hans, if_pos (.inl he)]
    refine H.tb (Own w g2 [(g3, sgL .zero nilV), (g2, pkL pk (.slice A2 pk.xs.length c2))]) (fun _ _ h hb => h.call hb) O7 [ec 0 25 (.int .i64 pe), ec 1 26 (.bool true), ec 2 27 (.bool true), ec 3 28 undef, ec 4 29 undef, ec 5 30 undef, ec 6 31 (.bool true)] rfl ⟨jm, jb fun _ => neq_k pe 0 true (by rw [bne_iff_ne]; exact he) _ _ _, jm, jo, jo, jo, jp, trivial⟩ ?_
    intro a w8 H O8
    refine then_normal (H.condT rfl (wp_goto ?_))
    repeat (with_reducible refine then_goto ?_)
    exact jump_goto ⟨hn, H.keep ⟨rfl, rfl, trivial⟩, _, _, rfl, rfl, O8⟩
  subst he
  obtain ⟨z, hz⟩ : ∃ z, (pk.p != 6) = z := ⟨_, rfl⟩
  refine H.tb (fun w' => Own w g2 [(g3, sgL .zero nilV), (g2, pkL pk (.slice A2 pk.xs.length c2))] w' ∧ Below w7.heap.size w7 w') (fun _ _ h hb => ⟨h.1.call hb, h.2.trans (hb.mono h.2.size)⟩) ⟨O7, Below.refl _ _⟩ [ec 0 25 (.int .i64 0), ec 1 26 (.bool false), ec 2 27 (.bool false), ec 3 28 (.pointer (some ⟨g2, 2, none⟩)), ec 4 29 (.int .i64 pk.p), ec 5 30 (.bool z), ec 6 31 (.bool z)] rfl ⟨jm, jb fun _ => neq_k 0 0 false rfl _ _ _, jm, jm, jl fun _ h => h.1.li 1 2, jb fun _ => neq_3 pk.p 6 z hz _ _ _, jp, trivial⟩ ?_
  rintro a w8 H ⟨O8, hb8⟩
  have hO8 := own_below hO7 hb8
  cases z with
  | true =>
    have hn : ans = none := by rw [← hans, if_pos (.inr (bne_iff_ne.1 hz))]
    refine then_normal (H.condT rfl (wp_goto ?_))
    repeat (with_reducible refine then_goto ?_)
    exact jump_goto ⟨hn, H.keep ⟨rfl, rfl, trivial⟩, _, _, rfl, rfl, O8⟩
  | false =>
  rw [if_neg (by rintro (h | h); exact h rfl; exact h (bne_eq_false_iff_eq.1 hz))] at hans
  refine then_normal (H.condF rfl (skip_wp (then_normal ?_)))
  replace H := H.keep (l' := [(2, .pointer (some ⟨g2, 0, none⟩)), (3, .pointer (some ⟨g3, 0, none⟩))]) ⟨rfl, rfl, trivial⟩
  refine H.rg 1 fun a H => ?_
  refine H.ld 1 (O8.li 1 0) fun a H => ?_
  refine H.ld 1 (O8.li 1 1) fun a H => ?_
  refine H.ld 0 (load1_31 _ _ _ _ _ _ ((O8.get 1 rfl).get 5 _ rfl)) fun a H => ?_
  have hw6 : w5.heap.size ≤ w8.heap.size := Nat.le_trans hb6.size (Nat.le_trans (Nat.le_of_eq hs7.symm) hb8.size)
  refine H.cl (segParseT pk.s pk.d pk.xs A2 c2 hc2 w8 (rb_of_own rfl hO8 hw6) (by omega)) ?_
  generalize hso : segOut pk.s pk.d pk.xs = so at hans
  obtain ⟨sg, se⟩ := so
  rintro a _ w9 ⟨A3, c3, rfl, hO9, hb9⟩ H
  have O9 := O8.call hb9
  refine H.ms 1 fun a H => ?_
  refine H.ex (r := .agg (sgL sg (.slice A3 sg.xs.length c3)).toArray) 0 fun a H => ?_
  refine H.ex (r := .int .i64 se) 0 fun a H => ?_
  refine H.storeS rfl rfl rfl rfl rfl (O9.get 0 rfl) size_sg27 rfl rfl rfl fun a w10 H hg10 hs10 hC10 => ?_
  have O10 := O9.store 0 rfl hg10 hs10 hC10
  have hw8 : w2.heap.size ≤ w8.heap.size := Nat.le_trans hw5 hw6
  have hO10 := hO9.kept hg10 (.inr (own_ne hO9 (.inl (Nat.lt_of_lt_of_le hg3 hw8))).symm)
  refine H.ms 1 fun a H => nt ?_
  refine H.rg 1 fun a H => ?_
  by_cases he : se = 0
  rotate_left
  · have hn : ans = none := by rw [← hans, if_pos he]
    refine H.bb 0 rfl rfl rfl rfl rfl rfl (neq_k se 0 true (by rw [bne_iff_ne]; exact he) _ _ _) rfl fun a H => nt (H.condT rfl (wp_goto ?_))
    repeat (with_reducible refine then_goto ?_)
    exact jump_goto ⟨hn, H.keep ⟨rfl, rfl, trivial⟩, _, _, rfl, rfl, O10⟩
  subst he
  rw [if_neg (fun h => h rfl)] at hans
  refine H.bb 0 rfl rfl rfl rfl rfl rfl (neq_k 0 0 false rfl _ _ _) rfl fun a H => nt (H.condF rfl (skip_wp (then_normal ?_)))
  replace H := H.keep (l' := [(2, .pointer (some ⟨g2, 0, none⟩)), (3, .pointer (some ⟨g3, 0, none⟩))]) ⟨rfl, rfl, trivial⟩
  have hgw : g3 < w8.heap.size ∧ g2 < w8.heap.size := ⟨by omega, by omega⟩
  refine H.sg (fun w' => Own w g2 [(g3, sgL sg (.slice A3 sg.xs.length c3)), (g2, pkL pk (.slice A2 pk.xs.length c2))] w' ∧ w'.ownsRow w8.heap.size 5 1 (.slice A3 sg.xs.length c3) sg.xs.length (sg.xs.map bv)) ⟨O10.drew, own_below hO10 (Below.drew (Below.refl _ _))⟩ [2, 3] [ec 0 44 (.agg (pkL pk (.slice A2 pk.xs.length c2)).toArray), ec 1 45 (.agg (sgL sg (.slice A3 sg.xs.length c3)).toArray)] rfl ?_
  refine St.sto 2 ⟨jl fun _ h => loadT (h.1.get 1 rfl) Tryz.underlying89 rfl size_pk27 rfl, jl fun _ h => loadT (h.1.get 0 rfl) Tryz.underlying36 rfl size_sg27 rfl, trivial⟩ ?_
  rintro a wu H _ ⟨Ou, hOu⟩
  obtain ⟨w', hr, hg', hs', hC'⟩ := (Ou.get 1 rfl).sto (L := pkL pk (.slice A2 pk.xs.length c2)) size_pk27 rfl rfl rfl
  refine ⟨w', run_store rfl (H.ev rfl) (H.ev rfl) hr, nx0 (fun w' => Own w g2 [(g3, sgL sg (.slice A3 sg.xs.length c3)), (g2, pkL pk (.slice A2 pk.xs.length c2))] w' ∧ w'.ownsRow w8.heap.size 5 1 (.slice A3 sg.xs.length c3) sg.xs.length (sg.xs.map bv)) [] [] ⟨Ou.store 1 rfl hg' hs' hC', hOu.kept hg' (.inr (own_ne hOu (.inl hgw.2)).symm)⟩ ?_⟩
  refine St.sto 3 ⟨jl fun _ h => loadT (h.1.get 0 rfl) Tryz.underlying36 rfl size_sg27 rfl, trivial⟩ ?_
  clear hr hg' hs' hC' Ou hOu
  rintro a wu H _ ⟨Ou, hOu⟩
  obtain ⟨w', hr, hg', hs', hC'⟩ := (Ou.get 0 rfl).sto (L := sgL sg (.slice A3 sg.xs.length c3)) size_sg27 rfl rfl rfl
  refine ⟨w', run_store rfl (H.ev rfl) (H.ev rfl) hr, nx0 (fun w' => Own w g2 [(g3, sgL sg (.slice A3 sg.xs.length c3)), (g2, pkL pk (.slice A2 pk.xs.length c2))] w' ∧ w'.ownsRow w8.heap.size 5 1 (.slice A3 sg.xs.length c3) sg.xs.length (sg.xs.map bv)) [ec 4 4 (.bool true)] [] ⟨Ou.store 0 rfl hg' hs' hC', hOu.kept hg' (.inr (own_ne hOu (.inl hgw.1)).symm)⟩ ?_⟩
  refine St.fin ⟨jm, trivial⟩ ?_
  rintro a w11 H _ ⟨O11, hO11⟩
  refine then_normal (wp_ret ?_)
  repeat (first | (with_reducible refine jump_ret ?_) | (with_reducible refine then_ret ?_))
  refine bodyPost_ret (results_cct rfl _ (H.at_ 2 _ rfl) (H.at_ 3 _ rfl) (H.at_ 4 _ rfl) (loadv_pk (O11.get 1 rfl) rfl) (loadv_sg (O11.get 0 rfl) rfl)) H.df ⟨_, rfl, ?_⟩
  rw [hans0, ← hans]
  exact ⟨_, _, _, A3, c3, rfl, own_base hO11 (by omega), bl O11⟩
end Go.Proofs.YtlacidnnankjlaaGreatDoor

/-
  append, and where the row lies: where it lay, or in a new block.
-/
namespace Go.Proofs.YtlacidnnankjlaaGreatDoor
open Go.RowKit

section
variable {P : Program} (w : World)
theorem run_append_readF (base : Nat) (t ty e : TypeId) (z : Value) (size bytes : Nat) (ht : P.underlying t = some (.slice e)) (hi : (P.info? e).map (fun i => (i.zero, i.size, i.bytes)) = some (some z, size, bytes)) (hzs : z.cells.size = size) (hsz : 0 < size)
    (v : Value) (n : Nat) (xs : List Value) (hown : w.ownsRow base e size v n xs)
    (B : Nat) (A : Option Addr) (m c : Nat) (news : List Value) (hr : Reads w B size A m news) (h1 : ∀ u ∈ news, u.oneCell' = true)
    (h63 : n + m ≤ maxLen) (hbytes : (n + m) * bytes ≤ 140737488355328) (hbase : base ≤ w.heap.size) :
    ∃ A' c' w', (Builtin.append_ #[t, t] ty #[v, .slice A m c]).run P w = .ok (.slice A' (n + m) c') w' ∧ w'.ownsRow base e size (.slice A' (n + m) c') (n + m) (xs ++ news) ∧ w.grownBy w' v.ownBlock ∧ ((Value.slice A' (n + m) c').ownBlock = v.ownBlock ∨ (Value.slice A' (n + m) c').ownBlock = some w.heap.size) := by
  obtain ⟨i, hi0, hz0, hz1, hz2⟩ := info_parts hi
  rcases A with _ | ad
  · have hm : m = 0 := by
      rcases Nat.eq_zero_or_pos m with h0 | h0
      · exact h0
      · obtain ⟨ad, h, _⟩ := hr.2 h0
        cases h
    subst hm
    have hn : news = [] := List.eq_nil_of_length_eq_zero (by simpa using hr.1)
    subst hn
    obtain ⟨A, c1, rfl, _, _⟩ := own_shape hown
    exact ⟨A, c1, w, run_append_of_nil w base t ty e i size ht hi0 _ n xs hown c, by simpa using hown, World.grownBy.refl w _, .inl rfl⟩
  · have hcells : ∀ j u, news[j]? = some u → w.cell? (ad.add j) = some u := by
      intro j u hu
      rcases Nat.eq_zero_or_pos m with h0 | h0
      · subst h0
        have hn : news = [] := List.eq_nil_of_length_eq_zero (by simpa using hr.1)
        subst hn
        simp at hu
      · obtain ⟨ad', h, _, hc⟩ := hr.2 h0
        injection h with h
        subst h
        exact hc j u hu
    obtain ⟨v', w', hrun, h2, h3, _, h4⟩ := run_append_own_at (P := P) w base t ty e i z size bytes ht hi0 hz0 hz1 hz2 hzs hsz v n xs hown ad m c news hr.1 hcells h1 h63 hbytes hbase
    obtain ⟨A', c', rfl, _, _⟩ := own_shape h2
    exact ⟨A', c', w', hrun, h2, h3, h4⟩
end
theorem run_appF {P : Program} {o : Oper} {a : Act} {w : World} {s x : Operand} {t : TypeId} (ho : o.op = .call { callee := .builtin .append, args := #[s, x], argTypes := #[t, t] }) {base : Nat} {e : TypeId} {z : Value} {size bytes : Nat} (ht : P.underlying t = some (.slice e)) (hi : (P.info? e).map (fun i => (i.zero, i.size, i.bytes)) = some (some z, size, bytes)) (hzs : z.cells.size = size) (hsz : 0 < size)
    {v : Value} {n : Nat} {xs : List Value} (hs : a.eval s = v) (hown : w.ownsRow base e size v n xs) {A : Option Addr} {m c : Nat} {ys : List Value} (hx : a.eval x = .slice A m c) (hr : Reads w w.heap.size size A m ys) (h1 : ∀ u ∈ ys, u.oneCell' = true) (hn : n + m ≤ maxLen) (hb : (n + m) * bytes ≤ 140737488355328) (hbase : base ≤ w.heap.size) :
    ∃ A' c' w', (execOp a.eval o).run P w = .ok (.value (.slice A' (n + m) c')) w' ∧ w'.ownsRow base e size (.slice A' (n + m) c') (n + m) (xs ++ ys) ∧ w.grownBy w' v.ownBlock ∧ ((Value.slice A' (n + m) c').ownBlock = v.ownBlock ∨ (Value.slice A' (n + m) c').ownBlock = some w.heap.size) := by
  obtain ⟨A', c', w', hrun, h2, h3⟩ := run_append_readF (P := P) w base t o.type e z size bytes ht hi hzs hsz v n xs hown w.heap.size A m c ys hr h1 hn hb hbase
  refine ⟨A', c', w', ?_, h2, h3⟩
  unfold execOp
  simp only [ho, resolve, invoke, builtin, Sem.run_bind, Sem.run_pure, Result.andThen_ok, List.map_toArray, List.map_cons, List.map_nil, hs, hx, hrun]
section
variable {ops : Array Oper} {Q : Exit → Act → World → Prop} {n : Nat} {fixed : List (Nat × Value)} {F : World → Prop} {es : List EntC} {done : List Nat} {d : Nat} {o : Oper}
/-- the next one appends cells to a row. -/
theorem St.appF (h : Nat) {s x : Operand} {t e : TypeId} {base size bytes m : Nat} {z : Value} {u : Value} {k c : Nat} {A : Option Addr} {xs ys : List Value} (hi : (Tryz.prog.info? e).map (fun i => (i.zero, i.size, i.bytes)) = some (some z, size, bytes)) (hl : LightAll ops Q n fixed F es done es)
    (hrun : ∀ w, F w → w.ownsRow base e size u k xs ∧ Reads w w.heap.size size A m ys ∧ base ≤ w.heap.size) (h1 : ∀ u ∈ ys, u.oneCell' = true) (hn : k + m ≤ maxLen ∧ (k + m) * bytes ≤ 140737488355328) (hk : ∀ w A' c' w', F w → w'.ownsRow base e size (.slice A' (k + m) c') (k + m) (xs ++ ys) → w.grownBy w' u.ownBlock → ((Value.slice A' (k + m) c').ownBlock = u.ownBlock ∨ (Value.slice A' (k + m) c').ownBlock = some w.heap.size) → Nx ops Q n fixed es done h d (.slice A' (k + m) c') w w')
    (ho : ops[h]? = some o := by rfl) (hp : o.op = .call { callee := .builtin .append, args := #[s, x], argTypes := #[t, t] } := by rfl) (hd : o.dst = some d := by rfl) (ht : Tryz.prog.underlying t = some (.slice e) := by kernel_rfl) (hzs : z.cells.size = size := by rfl) (hsz : 0 < size := by decide) (hg : okG ops (fixed ++ knownE (afts ops h) es) o = true := by rfl)
    (hs : evL (fixed ++ knownE (afts ops h) es) s = some u := by rfl) (hx : evL (fixed ++ knownE (afts ops h) es) x = some (.slice A m c) := by rfl) (hB : stB ops n fixed es done h = true := by kernel_rfl) (hN : Nat.ble ops.size 1000 = true := by kernel_rfl) (hback : backB ops = true := by kernel_rfl)
    (hF : es.all plainB = true ∨ ∀ w w', F w → Below w.heap.size w w' → F w' := by exact .inl rfl) (hst : StabAll es := by exact trivial) : St ops Q n fixed es F done := by
  refine St.val h hl ?_ ho hd hg hB hN hback hF hst
  intro a w H _ hFw
  obtain ⟨r1, r2, r3⟩ := hrun w hFw
  obtain ⟨A', c', w', hr, hO, hgr, hfr⟩ := run_appF (a := a) hp ht hi hzs hsz (H.ev hs) r1 (H.ev hx) r2 h1 hn.1 hn.2 r3
  exact ⟨_, w', hr, hk w A' c' w' hFw hO hgr hfr⟩
end
end Go.Proofs.YtlacidnnankjlaaGreatDoor

/-
  reasm.within: what of data lies in a buffer's window.
-/
namespace Go.Proofs.YtlacidnnankjlaaGreatDoor
open Go.RowKit

/-- where from Next on. -/
def wiAt (d : Int) : Nat := (max d 0).toNat
/-- what of data lies in the window. -/
def wiTake (d : Int) (xs : List UInt8) : List UInt8 := if max d 0 ≥ min (d + (xs.length : Int)) 2048 then [] else (xs.drop (max d 0 - d).toNat).take (min (d + (xs.length : Int)) 2048 - max d 0).toNat
end Go.Proofs.YtlacidnnankjlaaGreatDoor

/-
  reasm.fill's own function: data are laid over a window where nothing is yet.
-/
namespace Go.Proofs.YtlacidnnankjlaaGreatDoor
open Go.RowKit

/-- a byte is laid, where there is none. -/
def lay1c (m : List (Option UInt8)) (i : Nat) (x : UInt8) : List (Option UInt8) := if m[i]? = some none then m.set i (some x) else m
/-- bytes are laid. -/
def layG (m : List (Option UInt8)) (i : Nat) : List UInt8 → List (Option UInt8)
  | [] => m
  | x :: r => layG (lay1c m i x) (i + 1) r
end Go.Proofs.YtlacidnnankjlaaGreatDoor

/-
  reasm.fill: what is there, and data, over a window.
-/
namespace Go.Proofs.YtlacidnnankjlaaGreatDoor
open Go.RowKit

/-- the parts of a buffer, each with its data. -/
def PartsAt (w : World) (B : Nat) (AP : Option Addr) (ps : List (Nat × List UInt8)) : Prop :=
  ∀ k p, ps[k]? = some p → ∃ g o A c, AP = some ⟨g, o, none⟩ ∧ g < B ∧ w.rangeAt g (o + k * 2) [.int .i64 (p.1 : Int), .slice A p.2.length c] ∧ RB w B A p.2
theorem PartsAt.below {w w' : World} {B : Nat} {AP : Option Addr} {ps : List (Nat × List UInt8)} (h : PartsAt w B AP ps) (hb : Below B w w') : PartsAt w' B AP ps := by
  intro k p hk
  obtain ⟨g, o, A, c, h1, h2, h3, h4⟩ := h k p hk
  exact ⟨g, o, A, c, h1, h2, rangeB h3 hb h2, h4.below hb⟩
theorem PartsAt.more {w : World} {B B' : Nat} {AP : Option Addr} {ps : List (Nat × List UInt8)} (h : PartsAt w B AP ps) (hb : B ≤ B') : PartsAt w B' AP ps := by
  intro k p hk
  obtain ⟨g, o, A, c, h1, h2, h3, h4⟩ := h k p hk
  exact ⟨g, o, A, c, h1, Nat.lt_of_lt_of_le h2 hb, h3, h4.more hb⟩
/-- parts are laid over a window. -/
def layP (nx : Nat) (m : List (Option UInt8)) (ps : List (Nat × List UInt8)) : List (Option UInt8) := ps.foldl (fun m p => layG m (spDiff p.1 nx).toNat p.2) m
/-- a row of a kind. -/
def RowQ (base T : Nat) (L : List Value) (v : Value) (w : World) : Prop := ∃ g, v = .slice (some ⟨g, 0, none⟩) L.length L.length ∧ base ≤ g ∧ g < w.heap.size ∧ Cells w g L ∧ TypB w g T
theorem RowQ.below {base T : Nat} {L : List Value} {v : Value} {w w' : World} (hb : Below w.heap.size w w') (h : RowQ base T L v w) : RowQ base T L v w' := by
  obtain ⟨g, h1, h2, h3, h4, h5⟩ := h
  exact ⟨g, h1, h2, Nat.lt_of_lt_of_le h3 hb.size, h4.below hb h3, h5.below hb⟩
theorem RowQ.kept {base T : Nat} {L : List Value} {v : Value} {w w' : World} {r : Option Nat} (hg : w.grownBy w' r) (hr : ∀ k, r = some k → k < base) (h : RowQ base T L v w) : RowQ base T L v w' := by
  obtain ⟨g, h1, h2, h3, h4, h5⟩ := h
  have hne : some g ≠ r := fun e => by have := hr g e.symm; omega
  exact ⟨g, h1, h2, Nat.lt_of_lt_of_le h3 hg.size, h4.kept hg h3 hne, h5.grown hg hne⟩
theorem run_callV {P : Program} {o : Oper} {a : Act} {w : World} {x : Operand} {xs : Array Operand} {ats : Array TypeId} {f : FuncId} {cap vs : List Value} (ho : o.op = .call { callee := .value x, args := xs, argTypes := ats }) (hx : a.eval x = .func (.func f) #[] cap.toArray) (hv : xs.map a.eval = vs.toArray)
    (hen : ∀ (args : Array Value) (w : World), (callFunc f args).run P w = .ok (.enter f args) w) : (execOp a.eval o).run P w = .ok (.enter f (vs ++ cap).toArray) w := by
  unfold execOp
  simp only [ho, resolve, Deferred.ofValue, hx, hv, Sem.run_bind, Sem.run_pure, Result.andThen_ok, invoke, hen]
  simp
/-- a call of a function value. -/
theorem Has.cf {ops : Array Oper} {rest : List Oper} {o : Oper} {a : Act} {w : World} {Q : Exit → Act → World → Prop} {n : Nat} {l : List (Nat × Value)} (H : Has a n l) {d : Nat} {f : FuncId} {x : Operand} {xs : Array Operand} {ats : Array TypeId} {vs cap : List Value} {R : Value → World → Prop} (hc : Calls Tryz.prog f (vs ++ cap).toArray w fun e w' => ∃ v, e = .returned v ∧ R v w') (h : ∀ a' v w', R v w' → Has a' n ((d, v) :: l) → wpList Tryz.prog ops Q rest a' w')
    (ho : o.op = .call { callee := .value x, args := xs, argTypes := ats } := by rfl) (hd : o.dst = some d := by rfl) (hn : Nat.blt d n = true := by rfl) (hg : o.guard = none := by rfl) (hf : evL l x = some (.func (.func f) #[] cap.toArray) := by rfl) (hx : evLs l xs.toList = some vs := by rfl)
    (hen : ∀ (args : Array Value) (w : World), (callFunc f args).run Tryz.prog w = .ok (.enter f args) w := by exact fun _ _ => by kernel_rfl) : wpList Tryz.prog ops Q (o :: rest) a w := by
  refine wpList_enter (gz hg) d hd f (vs ++ cap).toArray (run_callV ho (H.ev hf) ?_ hen) R hc (fun v w' hR => h _ v w' hR (H.put hn v))
  rw [← H.evs hx, ← Array.toList_map, Array.toArray_toList]
section
variable {ops : Array Oper} {Q : Exit → Act → World → Prop} {n : Nat} {fixed : List (Nat × Value)} {es : List EntC} {F : World → Prop} {done : List Nat} {o : Oper} {d : Nat}
/-- the next one is a call of a function value. -/
theorem St.cf (h : Nat) {f : FuncId} {x : Operand} {xs : Array Operand} {ats : Array TypeId} {vs cap : List Value} {R : World → Value → World → Prop} (hl : LightAll ops Q n fixed F es done es) (hc : ∀ w, F w → Calls Tryz.prog f (vs ++ cap).toArray w fun e w' => ∃ v, e = .returned v ∧ R w v w') (hn : ∀ w v w', F w → R w v w' → Nx ops Q n fixed es done h d v w w')
    (ho : ops[h]? = some o := by rfl) (hp : o.op = .call { callee := .value x, args := xs, argTypes := ats } := by rfl) (hd : o.dst = some d := by rfl) (hg : okG ops (fixed ++ knownE (afts ops h) es) o = true := by rfl) (hf : evL (fixed ++ knownE (afts ops h) es) x = some (.func (.func f) #[] cap.toArray) := by rfl) (hx : evLs (fixed ++ knownE (afts ops h) es) xs.toList = some vs := by rfl)
    (hen : ∀ (args : Array Value) (w : World), (callFunc f args).run Tryz.prog w = .ok (.enter f args) w := by exact fun _ _ => by kernel_rfl) (hB : stB ops n fixed es done h = true := by kernel_rfl) (hN : Nat.ble ops.size 1000 = true := by kernel_rfl) (hback : backB ops = true := by kernel_rfl)
    (hF : es.all plainB = true ∨ ∀ w w', F w → Below w.heap.size w w' → F w' := by exact .inl rfl) (hst : StabAll es := by exact trivial) : St ops Q n fixed es F done := by
  refine st_go h (Array.getElem?_eq_some_iff.1 ho).1 (back_of hback) hB hN hF hst hl ?_
  intro o' K a w ho' H _ hFw hK _
  rw [ho] at ho'
  injection ho' with ho'
  subst ho'
  refine wpOp_enter ho (okG_w H hg) d hd f _ (run_callV hp (H.ev hf) ?_ hen) _ (hc w hFw) fun v w' hR => hK d v w' hd (hn w v w' hFw hR)
  rw [← H.evs hx, ← Array.toList_map, Array.toArray_toList]
end
end Go.Proofs.YtlacidnnankjlaaGreatDoor

/-
  reasm.fill.
-/
namespace Go.Proofs.YtlacidnnankjlaaGreatDoor
open Go.RowKit

theorem addq0 {W w : World} {B : Nat} {bs : List (Nat × List Value)} (h : Own W B bs w) {q : Nat} {L : List Value} (hB : B ≤ q) (hlt : q < w.heap.size) (hne : ∀ p ∈ bs, p.1 ≠ q) (hC : Cells w q L) : Own W B ((q, L) :: bs) w := by
  refine ⟨h.bel, h.le, ?_, fun p hp => ?_⟩
  · rw [List.map_cons, List.nodup_cons]
    exact ⟨fun hm => by obtain ⟨p, hp, e⟩ := List.mem_map.1 hm; exact hne p hp e, h.nd⟩
  · rcases List.mem_cons.1 hp with rfl | hp
    · exact ⟨hB, hlt, hC⟩
    · exact h.mem p hp
/-- nothing is there. -/
def win0 : List (Option UInt8) := List.replicate 2048 none
end Go.Proofs.YtlacidnnankjlaaGreatDoor

/-
  reasm.parts: the pieces that are there.
-/
namespace Go.Proofs.YtlacidnnankjlaaGreatDoor
open Go.RowKit

/-- the pieces that are there, from a place on. -/
inductive Runs (m : List (Option UInt8)) : Nat → List (Nat × List UInt8) → Prop
  | done {i : Nat} (h : ∀ j, i ≤ j → j < m.length → m[j]? = some none) : Runs m i []
  | run {i a b : Nat} {xs : List UInt8} {l : List (Nat × List UInt8)} (h1 : i ≤ a) (h2 : ∀ j, i ≤ j → j < a → m[j]? = some none) (h3 : a < b) (h4 : b ≤ m.length) (h5 : ∀ j, a ≤ j → j < b → ∃ x, m[j]? = some (some x) ∧ xs[j - a]? = some x) (h6 : xs.length = b - a) (h7 : b = m.length ∨ m[b]? = some none) (h : Runs m b l) : Runs m i ((a, xs) :: l)
/-- pieces as a row of parts. -/
def PP (w : World) (b nq : Nat) (l : List (Nat × List UInt8)) (cs : List Value) : Prop :=
  cs.length = l.length * 2 ∧ ∀ k p, l[k]? = some p → ∃ v, cs[k * 2]? = some (.int .i64 (spAdd nq p.1 : Nat)) ∧ cs[k * 2 + 1]? = some v ∧ RowIs b p.2 v w
theorem RowIs.beneath {b : Nat} {xs : List UInt8} {v : Value} {w w' : World} (h : RowIs b xs v w) (hb : Below w.heap.size w w') : RowIs b xs v w' := by
  obtain ⟨A, c, e, h⟩ := h
  exact ⟨A, c, e, own_below h hb⟩
theorem RowIs.apart {b b' s n T : Nat} {xs : List UInt8} {v u : Value} {ys : List Value} {w w' : World} (h : RowIs b xs v w) (hO : w.ownsRow b' T s u n ys) (hg : w.grownBy w' u.ownBlock) (hT : Nat.beq 5 T = false) : RowIs b xs v w' := by
  obtain ⟨A, c, e, h⟩ := h
  exact ⟨A, c, e, h.kept hg (own_apart h hO hT)⟩
theorem PP.beneath {w w' : World} {b nq : Nat} {l : List (Nat × List UInt8)} {cs : List Value} (h : PP w b nq l cs) (hb : Below w.heap.size w w') : PP w' b nq l cs := by
  refine ⟨h.1, fun k p hk => ?_⟩
  obtain ⟨v, h1, h2, h3⟩ := h.2 k p hk
  exact ⟨v, h1, h2, h3.beneath hb⟩
theorem PP.apart {w w' : World} {b nq b' s n T : Nat} {l : List (Nat × List UInt8)} {cs ys : List Value} {u : Value} (h : PP w b nq l cs) (hO : w.ownsRow b' T s u n ys) (hg : w.grownBy w' u.ownBlock) (hT : Nat.beq 5 T = false) : PP w' b nq l cs := by
  refine ⟨h.1, fun k p hk => ?_⟩
  obtain ⟨v, h1, h2, h3⟩ := h.2 k p hk
  exact ⟨v, h1, h2, h3.apart hO hg hT⟩
theorem PP.snoc {w : World} {b nq : Nat} {l : List (Nat × List UInt8)} {cs : List Value} (h : PP w b nq l cs) {a : Nat} {xs : List UInt8} {v : Value} (hr : RowIs b xs v w) : PP w b nq (l ++ [(a, xs)]) (cs ++ [.int .i64 (spAdd nq a : Nat), v]) := by
  refine ⟨by rw [List.length_append, List.length_append, h.1]; simp only [List.length_cons, List.length_nil]; omega, fun k p hk => ?_⟩
  rcases Nat.lt_or_ge k l.length with hlt | hge
  · rw [List.getElem?_append_left hlt] at hk
    obtain ⟨u, h1, h2, h3⟩ := h.2 k p hk
    exact ⟨u, by rw [List.getElem?_append_left (by rw [h.1]; omega)]; exact h1, by rw [List.getElem?_append_left (by rw [h.1]; omega)]; exact h2, h3⟩
  · rw [List.getElem?_append_right hge] at hk
    have hk0 : k - l.length = 0 := by
      rcases Nat.eq_zero_or_pos (k - l.length) with h0 | h0
      · exact h0
      · rw [List.getElem?_eq_none (by simp only [List.length_singleton]; omega)] at hk; cases hk
    rw [hk0] at hk
    have hk : (a, xs) = p := by simpa using hk
    subst hk
    refine ⟨v, ?_, ?_, hr⟩
    · rw [List.getElem?_append_right (by rw [h.1]; omega), show k * 2 - cs.length = 0 by rw [h.1]; omega]; rfl
    · rw [List.getElem?_append_right (by rw [h.1]; omega), show k * 2 + 1 - cs.length = 1 by rw [h.1]; omega]; rfl
end Go.Proofs.YtlacidnnankjlaaGreatDoor

/-
  reasm.parts, walked.
-/
namespace Go.Proofs.YtlacidnnankjlaaGreatDoor
open Go.RowKit

/-- what holds of the world in reasm.parts. -/
def PF (W : World) (nq : Nat) (l : List (Nat × List UInt8)) (cs : List Value) (v : Value) (w : World) : Prop :=
  Below W.heap.size W w ∧ w.ownsRow W.heap.size 153 2 v l.length cs ∧ PP w W.heap.size nq l cs
theorem PF.next {W w w' : World} {nq : Nat} {l : List (Nat × List UInt8)} {cs : List Value} {v : Value} (h : PF W nq l cs v w) (hb : Below w.heap.size w w') : PF W nq l cs v w' :=
  ⟨h.1.trans (hb.mono h.1.size), own_below h.2.1 hb, h.2.2.beneath hb⟩
/-- at the label. -/
structure PartsJ (W : World) (nq gH gA : Nat) (m : List (Option UInt8)) (a : Act) (w : World) (i : Nat) (l : List (Nat × List UInt8)) (cs : List Value) (v : Value) : Prop where
  at_ : Has a 52 [(0, .int .i64 (nq : Int)), (1, .slice (some ⟨gH, 0, none⟩) 2048 2048), (2, .slice (some ⟨gA, 0, none⟩) 2048 2048), (6, v), (7, .int .i64 (i : Int))]
  hi : i ≤ 2048
  len : l.length ≤ i
  fed : ∀ {l2 : List (Nat × List UInt8)}, Runs m i l2 → Runs m 0 (l ++ l2)
  pf : PF W nq l cs v w
end Go.Proofs.YtlacidnnankjlaaGreatDoor

/-
  reasm.Put.
-/
namespace Go.Proofs.YtlacidnnankjlaaGreatDoor
open Go.RowKit

def putSeq (nq : Nat) (l : List (Nat × List UInt8)) : List (Nat × List UInt8) := l.map fun p => (spAdd nq p.1, p.2)
def putRest (nq : Nat) : List (Nat × List UInt8) → List (Nat × List UInt8)
  | [] => []
  | (a, x) :: r => bif spAdd nq a == nq then r else (a, x) :: r
def putTold (nq : Nat) : List (Nat × List UInt8) → List UInt8
  | [] => []
  | (a, x) :: _ => bif spAdd nq a == nq then x else []
def putNext (nq : Nat) : List (Nat × List UInt8) → Nat
  | [] => nq
  | (a, x) :: _ => bif spAdd nq a == nq then spAdd nq x.length else nq
/-- what 'Put' leaves: the buffer, what is told. -/
def PutG (nq : Nat) (ps : List (Nat × List UInt8)) (sq : Nat) (xs : List UInt8) (nq' : Nat) (ps' : List (Nat × List UInt8)) (told : List UInt8) : Prop :=
  (wiTake (spDiff sq nq) xs = [] ∧ nq' = nq ∧ ps' = ps ∧ told = []) ∨
  (wiTake (spDiff sq nq) xs ≠ [] ∧ ∃ l, Runs (layG (layP nq win0 ps) (wiAt (spDiff sq nq)) (wiTake (spDiff sq nq) xs)) 0 l ∧
    ((8 < (putRest nq l).length ∧ nq' = nq ∧ ps' = ps ∧ told = []) ∨ ((putRest nq l).length ≤ 8 ∧ nq' = putNext nq l ∧ ps' = putSeq nq (putRest nq l) ∧ told = putTold nq l)))
/-- bytes are read in blocks of which S holds. -/
def RBS (w : World) (S : Nat → Prop) (A : Option Addr) (xs : List UInt8) : Prop := 0 < xs.length → ∃ ad : Addr, A = some ad ∧ S ad.block ∧ ad.block < w.heap.size ∧ ∀ j u, (xs.map bv)[j]? = some u → w.cell? (ad.add j) = some u
theorem RBS.rb {w : World} {S : Nat → Prop} {A : Option Addr} {xs : List UInt8} (h : RBS w S A xs) : RB w w.heap.size A xs := by
  refine ⟨by rw [List.length_map, Nat.mul_one], fun hn => ?_⟩
  obtain ⟨ad, h1, _, h3, h4⟩ := h hn
  exact ⟨ad, h1, h3, h4⟩
theorem RBS.mono {w : World} {S S' : Nat → Prop} {A : Option Addr} {xs : List UInt8} (h : RBS w S A xs) (hS : ∀ k, k < w.heap.size → S k → S' k) : RBS w S' A xs := by
  intro hn
  obtain ⟨ad, h1, h2, h3, h4⟩ := h hn
  exact ⟨ad, h1, hS _ h3 h2, h3, h4⟩
theorem RBS.grown {w w' : World} {S : Nat → Prop} {A : Option Addr} {xs : List UInt8} {r : Option Nat} (h : RBS w S A xs) (hg : w.grownBy w' r) (hr : ∀ k, r = some k → ¬ S k) : RBS w' S A xs := by
  intro hn
  obtain ⟨ad, h1, h2, h3, h4⟩ := h hn
  refine ⟨ad, h1, h2, Nat.lt_of_lt_of_le h3 hg.size, fun j u hu => ?_⟩
  have hb : (ad.add j).block = ad.block := block_of_add ..
  exact hg.cell (h4 j u hu) (by rw [hb]; exact fun e => hr _ e.symm h2)
/-- blocks from b on that are no buffer. -/
def SP (b : Nat) (w : World) (k : Nat) : Prop := b ≤ k ∧ ¬ TypB w k 104
theorem RBS.of_row {w : World} {b n c : Nat} {A : Option Addr} {xs : List UInt8} (h : w.ownsRow b 5 1 (.slice A n c) n (xs.map bv)) (hn : xs.length = n) : RBS w (SP b w) A xs := by
  intro hp
  rw [hn] at hp
  obtain ⟨g, cap, hv, _, hlt⟩ := h.form hp
  injection hv with hA _ _
  subst hA
  have hb := (h.lt g rfl).1
  exact ⟨_, rfl, ⟨hb, fun ht => ht.far h rfl rfl⟩, hlt, h.cells (g := g) rfl⟩
/-- the parts of a buffer, in blocks of which S holds. -/
def PartsS (w : World) (S : Nat → Prop) (AP : Option Addr) (ps : List (Nat × List UInt8)) : Prop :=
  ∀ k p, ps[k]? = some p → ∃ g o A c, AP = some ⟨g, o, none⟩ ∧ S g ∧ g < w.heap.size ∧ w.rangeAt g (o + k * 2) [.int .i64 (p.1 : Int), .slice A p.2.length c] ∧ RBS w S A p.2
theorem PartsS.at_ {w : World} {S : Nat → Prop} {AP : Option Addr} {ps : List (Nat × List UInt8)} (h : PartsS w S AP ps) : PartsAt w w.heap.size AP ps := by
  intro k p hk
  obtain ⟨g, o, A, c, h1, _, h3, h4, h5⟩ := h k p hk
  exact ⟨g, o, A, c, h1, h3, h4, h5.rb⟩
theorem PartsS.mono {w : World} {S S' : Nat → Prop} {AP : Option Addr} {ps : List (Nat × List UInt8)} (h : PartsS w S AP ps) (hS : ∀ k, k < w.heap.size → S k → S' k) : PartsS w S' AP ps := by
  intro k p hk
  obtain ⟨g, o, A, c, h1, h2, h3, h4, h5⟩ := h k p hk
  exact ⟨g, o, A, c, h1, hS _ h3 h2, h3, h4, h5.mono hS⟩
theorem PartsS.grown {w w' : World} {S : Nat → Prop} {AP : Option Addr} {ps : List (Nat × List UInt8)} {r : Option Nat} (h : PartsS w S AP ps) (hg : w.grownBy w' r) (hr : ∀ k, r = some k → ¬ S k) : PartsS w' S AP ps := by
  intro k p hk
  obtain ⟨g, o, A, c, h1, h2, h3, h4, h5⟩ := h k p hk
  refine ⟨g, o, A, c, h1, h2, Nat.lt_of_lt_of_le h3 hg.size, fun j u hu => ?_, h5.grown hg hr⟩
  exact hg.cell (h4 j u hu) (fun e => hr _ e.symm h2)
theorem PartsS.of_row {w : World} {b nq n c : Nat} {A : Option Addr} {l : List (Nat × List UInt8)} {cs : List Value} (hO : w.ownsRow b 153 2 (.slice A n c) n cs) (hP : PP w b nq l cs) : PartsS w (SP b w) A (putSeq nq l) := by
  have hr := Reads.of_own hO
  intro k p hk
  unfold putSeq at hk
  rw [List.getElem?_map] at hk
  cases hl : l[k]? with
  | none => rw [hl] at hk; cases hk
  | some q =>
    rw [hl] at hk
    injection hk with hk
    subst hk
    obtain ⟨v, h1, h2, h3⟩ := hP.2 k q hl
    have hkl : k < l.length := (List.getElem?_eq_some_iff.1 hl).1
    have hnn : 0 < n := by
      have := hr.1
      rw [hP.1] at this
      omega
    obtain ⟨g, cap, hv, _, hlt⟩ := hO.form hnn
    injection hv with hA _ _
    subst hA
    obtain ⟨ad, e, _, hcell⟩ := hr.2 hnn
    injection e with e
    subst e
    obtain ⟨A', c', rfl, h4⟩ := h3
    refine ⟨g, 0, A', c', rfl, ⟨(hO.lt g rfl).1, fun ht => ht.far hO rfl rfl⟩, hlt, ?_, RBS.of_row h4 rfl⟩
    intro j u hu
    have hj : j < 2 := (List.getElem?_eq_some_iff.1 hu).1
    rcases Nat.lt_or_ge j 1 with h0 | h0
    · have e0 : j = 0 := by omega
      subst e0
      injection hu with hu
      subst hu
      have := hcell _ _ h1
      rw [Addr.add_mid] at this
      exact this
    · have e0 : j = 1 := by omega
      subst e0
      injection hu with hu
      subst hu
      have := hcell _ _ h2
      rw [Addr.add_mid] at this
      rw [Nat.add_assoc]
      exact this
theorem PartsS.tail {w : World} {S : Nat → Prop} {g o : Nat} {p : Nat × List UInt8} {ps : List (Nat × List UInt8)} (h : PartsS w S (some ⟨g, o, none⟩) (p :: ps)) : PartsS w S (some ⟨g, o + 2, none⟩) ps := by
  intro k q hk
  obtain ⟨g', o', A, c, h1, h2, h3, h4, h5⟩ := h (k + 1) q hk
  injection h1 with h1
  injection h1 with h6 h7
  subst h6 h7
  exact ⟨g, o + 2, A, c, rfl, h2, h3, by rw [show o + 2 + k * 2 = o + (k + 1) * 2 by omega]; exact h4, h5⟩
theorem PartsS.nil {w : World} {S : Nat → Prop} {A : Option Addr} : PartsS w S A [] := fun k p h => by simp at h
end Go.Proofs.YtlacidnnankjlaaGreatDoor

/-
  span.Has; a client hears a segment.
-/
namespace Go.Proofs.YtlacidnnankjlaaGreatDoor
open Go.RowKit

theorem and_bitC (u v : Int) (x y : Operand) (w : World) : (do eqGuard .and 3 x y (.int .i64 u) (.int .i64 v); binOp .and 3 (.int .i64 u) (.int .i64 v) : Sem Value).run Tryz.prog w = .ok (.int .i64 (bits .and .i64 u v)) w := by kernel_rfl
set_option maxRecDepth 100000 in
/-- whether a span of one number has a number. -/
theorem spanHas1 (s y : Nat) (hs : s ≤ 4294967295) (hy : y ≤ 4294967295) (w : World) : Calls Tryz.prog 89 #[spV s 1, .int .i64 (y : Int)] w fun e w' => e = .returned (.tuple #[.bool (y == s), .int .i64 0]) ∧ w = w' := by
  go_enter Tryz.func89, Tryz.ntmps89
  refine Has.start 28 [(0, spV s 1), (1, .int .i64 (y : Int))] rfl rfl ⟨rfl, rfl, trivial⟩ ?_
  intro a0 H0
  refine H0.rg 2 fun a H => nt ?_
  refine H.rg 1 fun a H => ?_
  refine H.cq 1 (spanParts s 1 hs (by decide) w) fun a H => ?_
  refine H.ex (r := .int .i64 (s : Int)) 0 fun a H => ?_
  refine H.ex (r := .int .i64 1) 0 fun a H => ?_
  refine H.ex (r := .int .i64 0) 3 fun a H => nt ?_
  replace H := H.keep (l' := [(1, .int .i64 (y : Int)), (6, .int .i64 (s : Int)), (7, .int .i64 1), (8, .int .i64 0)]) ⟨rfl, rfl, rfl, rfl, trivial⟩
  refine H.rg 1 fun a H => ?_
  refine H.bn 1 (neq_e 0 0 false rfl _ _ _) fun a H => ?_
  refine H.go (H.wt rfl rfl rfl) rfl rfl _ (run_move (.inl rfl) (H.ev rfl)) fun a H => ?_
  refine H.call (H.wt rfl rfl rfl) rfl rfl rfl rfl (fun _ _ => by kernel_rfl) (quietC (spanIs (y : Int) w)) ?_
  have hin : inR (y : Int) 4294967295 = true := inR_iff.2 ⟨by omega, by omega⟩
  rintro a _ _ ⟨rfl, rfl⟩ H
  rw [hin] at H
  refine H.un (H.wt rfl rfl rfl) rfl rfl rfl rfl (run_not true _) fun a H => ?_
  refine H.pick gz rfl rfl rfl rfl rfl fun a H => nt (H.condF rfl (skip_wp (then_normal ?_)))
  replace H := H.keep (l' := [(1, .int .i64 (y : Int)), (6, .int .i64 (s : Int)), (7, .int .i64 1)]) ⟨rfl, rfl, rfl, trivial⟩
  obtain ⟨d, hd⟩ : ∃ d : Nat, (((y : Int) - (s : Int)) % 4294967296).toNat = d := ⟨_, rfl⟩
  have hyd : (decide ((d : Int) < 1)) = (y == s) := by
    rw [Bool.eq_iff_iff, decide_eq_true_iff, beq_iff_eq]
    omega
  refine H.rg 2 fun a H => ?_
  refine H.bn 0 (sub_ii (y : Int) (s : Int) (by omega) (by omega) _ _ _) fun a H => ?_
  refine H.bn 1 (and_sp ((y : Int) - (s : Int)) d hd _ _ _) fun a H => ?_
  refine H.bb 2 rfl rfl rfl rfl rfl rfl (lss_i (d : Int) 1 (y == s) hyd _ _ _) rfl fun a H => nt (wp_ret ?_)
  repeat (first | (with_reducible refine block_ret ?_) | (with_reducible refine then_ret ?_))
  exact bodyPost_ret (results_pair rfl _ _ _ (H.at_ 4 _ rfl) (H.at_ 5 _ rfl)) H.df ⟨rfl, rfl⟩
theorem block_goto {id l : Nat} {Q : Exit → Act → World → Prop} {a : Act} {w : World} (h : Q (.goto l) a w) : Exit.inBlock id Q (.goto l) a w := h
/-- what turns in a client that hears. -/
structure Cl where
  wants : Nat
  up : Bool
  got : List UInt8
def clHear (iss : Nat) (x : Cl) (q : Sg) : Cl × Bool :=
  if (bits .and .i64 q.fl 4 != 0) = true then (⟨x.wants, false, x.got⟩, false)
  else if ((bits .and .i64 q.fl 18 == 18) && (q.ak == ((spAdd iss 1 : Nat) : Int))) = true then (⟨spAdd q.sq.toNat 1, true, []⟩, true)
  else if ((!x.up || (bits .and .i64 q.fl 2 != 0)) || !(q.sq.toNat == x.wants)) = true then (x, false)
  else (⟨spAdd x.wants (q.xs.length + (if (bits .and .i64 q.fl 1 != 0) = true then 1 else 0)), x.up, x.got ++ q.xs⟩, decide (0 < q.xs.length + (if (bits .and .i64 q.fl 1 != 0) = true then 1 else 0)))
/-- a client's two rows. -/
def CliR (g : Nat) (got last : List UInt8) (vG vl : Value) (w : World) : Prop :=
  w.ownsRow (g + 1) 5 1 vG got.length (got.map bv) ∧ w.ownsRow (g + 1) 5 1 vl last.length (last.map bv) ∧ ∀ k, vl.ownBlock = some k → vG.ownBlock ≠ some k
theorem CliR.next {g : Nat} {got last : List UInt8} {vG vl : Value} {w w' : World} (h : CliR g got last vG vl w) (hb : Below w.heap.size w w') : CliR g got last vG vl w' := ⟨own_below h.1 hb, own_below h.2.1 hb, h.2.2⟩
theorem CliR.box {g k0 : Nat} {got last : List UInt8} {vG vl : Value} {w w' : World} (h : CliR g got last vG vl w) (hg : w.grownBy w' (some k0)) (hk : k0 ≤ g) : CliR g got last vG vl w' :=
  ⟨h.1.kept hg (.inr (own_ne h.1 (.inl (Nat.lt_succ_of_le hk))).symm), h.2.1.kept hg (.inr (own_ne h.2.1 (.inl (Nat.lt_succ_of_le hk))).symm), h.2.2⟩
theorem CliR.nil {g : Nat} {w : World} : CliR g [] [] nilV nilV w := ⟨World.ownsRow_nil _ _ _ _, World.ownsRow_nil _ _ _ _, fun k h => by cases h⟩
/-- but for a block, and a row's, all is as it was. -/
def Kp (g : Nat) (v : Value) (w w' : World) : Prop := w.heap.size ≤ w'.heap.size ∧ ∀ k, k < w.heap.size → k ≠ g → some k ≠ v.ownBlock → w'.heap[k]? = w.heap[k]?
theorem Kp.refl (g : Nat) (v : Value) (w : World) : Kp g v w w := ⟨Nat.le_refl _, fun _ _ _ _ => rfl⟩
theorem Kp.grown {g : Nat} {v : Value} {w w' : World} {r : Option Nat} (hg : w.grownBy w' r) (hr : ∀ k, r = some k → k = g ∨ some k = v.ownBlock ∨ w.heap.size ≤ k) : Kp g v w w' :=
  ⟨hg.size, fun k hk h1 h2 => hg.block k hk fun e => by
    rcases hr k e.symm with h | h | h
    · exact h1 h
    · exact h2 h
    · omega⟩
theorem Kp.below {g : Nat} {v : Value} {w w' : World} (hb : Below w.heap.size w w') : Kp g v w w' := Kp.grown (below_grown hb none) (fun k e => by cases e)
theorem Kp.trans {g : Nat} {v : Value} {w w1 w2 : World} (h : Kp g v w w1) (h2 : Kp g v w1 w2) : Kp g v w w2 :=
  ⟨Nat.le_trans h.1 h2.1, fun k hk h3 h4 => (h2.2 k (Nat.lt_of_lt_of_le hk h.1) h3 h4).trans (h.2 k hk h3 h4)⟩
theorem Kp.box {g : Nat} {v : Value} {w w1 w2 : World} (h : Kp g v w w1) (hg : w1.grownBy w2 (some g)) : Kp g v w w2 := h.trans (Kp.grown hg fun k e => .inl (by injection e with e; exact e.symm))
theorem Kp.next {g : Nat} {v : Value} {w w1 w2 : World} (h : Kp g v w w1) (hb : Below w1.heap.size w1 w2) : Kp g v w w2 := h.trans (Kp.below hb)
/-- a row's block: the elder one's, none, or a new one. -/
def RelV (w : World) (v v' : Value) : Prop := v'.ownBlock = v.ownBlock ∨ v'.ownBlock = none ∨ ∃ k, v'.ownBlock = some k ∧ w.heap.size ≤ k
theorem Kp.far {g : Nat} {v v1 : Value} {w w1 w2 : World} (h : Kp g v w w1) (hr : RelV w v v1) (h2 : Kp g v1 w1 w2) : Kp g v w w2 :=
  ⟨Nat.le_trans h.1 h2.1, fun k hk h3 h4 => (h2.2 k (Nat.lt_of_lt_of_le hk h.1) h3 (by
    rcases hr with e | e | ⟨j, e, hj⟩
    · rw [e]; exact h4
    · rw [e]; simp
    · rw [e]; intro e2; injection e2 with e2; omega)).trans (h.2 k hk h3 h4)⟩
theorem RelV.trans {v v1 v2 : Value} {w w1 : World} (h : RelV w v v1) (hw : w.heap.size ≤ w1.heap.size) (h2 : RelV w1 v1 v2) : RelV w v v2 := by
  rcases h2 with e | e | ⟨j, e, hj⟩
  · unfold RelV
    rw [e]; exact h
  · exact .inr (.inl e)
  · exact .inr (.inr ⟨j, e, Nat.le_trans hw hj⟩)
/-- what a client that hears leaves. -/
def HeardC (W : World) (B g ip mac port iss next : Nat) (x : Cl) (last : List UInt8) (vl : Value) (q : Sg) (w0 : World) (vG0 : Value) (v : Value) (w : World) : Prop :=
  ∃ x' t vG, clHear iss x q = (x', t) ∧ v = .bool t ∧ Own W B [(g, cliC ip mac port iss next x'.wants x'.up vG vl)] w ∧ CliR g x'.got last vG vl w ∧ Kp g vG0 w0 w ∧ RelV w0 vG0 vG
set_option maxRecDepth 100000 in
set_option maxHeartbeats 3200000 in
theorem cliHear (W : World) (B g ip mac port iss next : Nat) (x : Cl) (last : List UInt8) (vG vl : Value) (q : Sg) (sq : Nat) (hsq : q.sq = (sq : Int)) (hsl : sq ≤ 4294967295) (A : Option Addr) (c : Nat) (w : World) (O : Own W B [(g, cliC ip mac port iss next x.wants x.up vG vl)] w) (R : CliR g x.got last vG vl w)
    (hx : RB w w.heap.size A q.xs) (hn : q.xs.length ≤ 65536) (hw : x.wants ≤ 4294967295) (hi : iss ≤ 4294967295) (hgl : x.got.length ≤ 1000000000) :
    Calls Tryz.prog 52 #[.pointer (some ⟨g, 0, none⟩), .agg (sgL q (.slice A q.xs.length c)).toArray] w fun e w' => ∃ v, e = .returned v ∧ HeardC W B g ip mac port iss next x last vl q w vG v w' := by
  have hsn : q.sq.toNat = sq := by rw [hsq]; rfl
  obtain ⟨ans, hans⟩ : ∃ ans, clHear iss x q = ans := ⟨_, rfl⟩
  obtain ⟨z4, hz4⟩ : ∃ z, (bits .and .i64 q.fl 4 != 0) = z := ⟨_, rfl⟩
  obtain ⟨sy, hsy⟩ : ∃ z, (bits .and .i64 q.fl 18 == 18) = z := ⟨_, rfl⟩
  obtain ⟨ac, hac⟩ : ∃ z, (q.ak == ((spAdd iss 1 : Nat) : Int)) = z := ⟨_, rfl⟩
  obtain ⟨z2, hz2⟩ : ∃ z, (bits .and .i64 q.fl 2 != 0) = z := ⟨_, rfl⟩
  obtain ⟨nn, hnx⟩ : ∃ z, (sq == x.wants) = z := ⟨_, rfl⟩
  obtain ⟨z1, hz1⟩ : ∃ z, (bits .and .i64 q.fl 1 != 0) = z := ⟨_, rfl⟩
  have hans0 := hans
  unfold clHear at hans
  rw [hsn, hz4, hsy, hac, hz2, hnx, hz1] at hans
  go_enter Tryz.func52, Tryz.ntmps52
  refine Has.start 108 [(0, .pointer (some ⟨g, 0, none⟩)), (1, .agg (sgL q (.slice A q.xs.length c)).toArray)] rfl rfl ⟨rfl, rfl, trivial⟩ ?_
  intro a0 H0
  have hgw := O.lt 0 rfl
  have hgB := O.ge 0 rfl
  refine rl ?_
  refine H0.bx (Own.start w) 1 (L := sgL q (.slice A q.xs.length c)) fun a w1 Oq H => nt ?_
  have R1 := R.next Oq.bel
  have hF3 : some w.heap.size ≠ vG.ownBlock := own_ne R.1 (.inr (Nat.le_refl _))
  have O1 := addq0 (O.call Oq.bel) (Nat.le_of_lt (Nat.lt_of_le_of_lt hgB hgw)) (Oq.lt 0 rfl) (by intro p hp; rw [List.mem_singleton.1 hp]; exact Nat.ne_of_lt hgw) (Oq.get 0 rfl)
  have hx1 := hx.next Oq.bel
  have S1 : Kp g vG w w1 := Kp.below Oq.bel
  clear O Oq R hx
  obtain ⟨g3, hg3⟩ : ∃ g3, w.heap.size = g3 := ⟨_, rfl⟩
  rw [hg3] at O1 H hgw hF3
  replace H := H.keep (l' := [(0, .pointer (some ⟨g, 0, none⟩)), (3, .pointer (some ⟨g3, 0, none⟩))]) ⟨rfl, rfl, trivial⟩
  have drop1 : ∀ {x : Nat × List Value} {bs : List (Nat × List Value)} {w'}, Own W B (x :: bs) w' → Own W B bs w' := fun h => h.sub (List.sublist_cons_self _ _)
  refine wp_scope_one (k := 0) rfl (fun a w' => ans.2 = false ∧ Has a 108 [(3, .pointer (some ⟨g3, 0, none⟩))] ∧ ∃ vG', Own W B [(g, cliC ip mac port iss next ans.1.wants ans.1.up vG' vl)] w' ∧ CliR g ans.1.got last vG' vl w' ∧ Kp g vG w w' ∧ RelV w vG vG') (fun _ _ => 0) ?_ ?_
  rotate_left
  · clear H H0 O1 R1 hx1
    rintro a w3 ⟨hf, H, vG', O3, R3, S3, V3⟩
    refine H.rg 1 fun a H => nt (wp_ret ?_)
    repeat (first | (with_reducible refine jump_ret ?_) | (with_reducible refine then_ret ?_))
    exact bodyPost_ret (results_tmp rfl _ _ _) H.df ⟨_, congrArg Ending.returned (H.at_ 4 _ rfl), ans.1, false, vG', by rw [hans0, ← hf], rfl, O3, R3, S3, V3⟩
  intro hpass
  refine H.rg 1 fun a H => ?_
  refine H.ld 0 (O1.li 0 4) fun a H => ?_
  refine H.bn 0 (and_bitC q.fl 18 _ _ _) fun a H => ?_
  refine H.bb 1 rfl rfl rfl rfl rfl rfl (eql_iB (bits .and .i64 q.fl 18) 18 sy hsy _ _ _) rfl fun a H => nt ?_
  replace H := H.keep (l' := [(0, .pointer (some ⟨g, 0, none⟩)), (3, .pointer (some ⟨g3, 0, none⟩)), (5, .bool sy)]) ⟨rfl, rfl, rfl, trivial⟩
  refine H.rg 1 fun a H => ?_
  refine H.ld 0 (load1_31 _ _ _ _ _ _ ((O1.get 0 rfl).get 6 _ rfl)) fun a H => ?_
  refine H.len gz rfl rfl rfl rfl Tryz.underlying31 fun a H => ?_
  refine H.ms 1 fun a H => nt ?_
  replace H := H.keep (l' := [(0, .pointer (some ⟨g, 0, none⟩)), (3, .pointer (some ⟨g3, 0, none⟩)), (5, .bool sy), (6, .int .i64 (q.xs.length : Int))]) ⟨rfl, rfl, rfl, rfl, trivial⟩
  refine H.rg 3 fun a H => ?_
  refine H.ld 0 (O1.li 1 5) fun a H => ?_
  refine H.cq 1 (spanOf_yes x.wants 1 hw (by decide) w1) fun a H => ?_
  refine H.ex (r := spV x.wants 1) 0 fun a H => ?_
  refine H.ex (r := .int .i64 0) 2 fun a H => nt ?_
  replace H := H.keep (l' := [(0, .pointer (some ⟨g, 0, none⟩)), (3, .pointer (some ⟨g3, 0, none⟩)), (5, .bool sy), (6, .int .i64 (q.xs.length : Int)), (7, spV x.wants 1)]) ⟨rfl, rfl, rfl, rfl, rfl, trivial⟩
  refine H.rg 2 fun a H => ?_
  refine H.ld 0 (O1.li 0 2) fun a H => ?_
  rw [hsq] at H
  refine H.cq 1 (spanHas1 x.wants sq hw hsl w1) fun a H => ?_
  rw [hnx] at H
  refine H.ex (r := .bool nn) 0 fun a H => ?_
  refine H.ex (r := .int .i64 0) 2 fun a H => nt (wp_seq (wp_block ?_))
  replace H := H.keep (l' := [(0, .pointer (some ⟨g, 0, none⟩)), (3, .pointer (some ⟨g3, 0, none⟩)), (5, .bool sy), (6, .int .i64 (q.xs.length : Int)), (9, .bool nn)]) ⟨rfl, rfl, rfl, rfl, rfl, trivial⟩
  refine H.rg 1 fun a H => ?_
  refine H.ld 0 (O1.li 0 4) fun a H => ?_
  refine H.bn 0 (and_bitC q.fl 4 _ _ _) fun a H => ?_
  refine H.bb 1 rfl rfl rfl rfl rfl rfl (neq_3 (bits .and .i64 q.fl 4) 0 z4 hz4 _ _ _) rfl fun a H => nt ?_
  cases z4 with
  | true =>
    rw [if_pos rfl] at hans
    subst hans
    refine H.condT rfl ?_
    refine H.rg 3 fun a H => ?_
    refine H.put1 (O1.get 1 rfl) 0 (fun u => store1_b _ _ _ u _) fun a w2 C2 g2' H => nt (wp_goto ?_)
    repeat (first | (with_reducible refine block_goto ?_) | (with_reducible refine then_goto ?_))
    exact jump_goto ⟨rfl, H.keep ⟨rfl, trivial⟩, vG, drop1 (O1.turn 1 rfl g2' C2), R1.box g2' (Nat.le_refl g), S1.box g2', .inl rfl⟩
  | false =>
  rw [if_neg (by decide)] at hans
  refine H.condF rfl ?_
  replace H := H.keep (l' := [(0, .pointer (some ⟨g, 0, none⟩)), (3, .pointer (some ⟨g3, 0, none⟩)), (5, .bool sy), (6, .int .i64 (q.xs.length : Int)), (9, .bool nn)]) ⟨rfl, rfl, rfl, rfl, rfl, trivial⟩
  refine H.dq (fun w' => Own W B [(g3, sgL q (.slice A q.xs.length c)), (g, cliC ip mac port iss next x.wants x.up vG vl)] w' ∧ CliR g x.got last vG vl w' ∧ RB w' w'.heap.size A q.xs ∧ Kp g vG w w') (fun _ _ h hb => ⟨h.1.call hb, h.2.1.next hb, h.2.2.1.next hb, h.2.2.2.next hb⟩) ⟨O1, R1, hx1, S1⟩ [0, 3, 5, 6, 9] rfl
    [ec 0 42 (.bool sy), ec 1 43 (.bool sy), ec 2 44 (gv sy (.pointer (some ⟨g3, 3, none⟩))), ec 3 45 (gv sy (.int .i64 q.ak)), ec 4 46 (gv sy (.pointer (some ⟨g, 0, none⟩))), ec 5 47 (gv sy (.pointer (some ⟨g, 0, none⟩))), ec 6 48 (gv sy (.pointer (some ⟨g, 3, none⟩))), ec 7 49 (gv sy (.int .i64 (iss : Int))), ec 8 50 (gv sy (.int .i64 ((spAdd iss 1 : Nat) : Int))), ec 9 51 (gv sy (.bool ac)), ec 10 52 (.bool (sy && ac)), ec 11 41 (.bool (sy && ac))] rfl
    ⟨jm, jm, (by cases sy; exact jo; exact jm), (by cases sy; exact jo; exact jl fun _ h => load1_i _ _ _ _ ((Own.get h.1 0 rfl).get 3 _ rfl)), (by cases sy; exact jo; exact jm), (by cases sy; exact jo; exact jm), (by cases sy; exact jo; exact jm), (by cases sy; exact jo; exact jl fun _ h => load1_i _ _ _ _ ((Own.get h.1 1 rfl).get 3 _ rfl)), (by cases sy; exact jo; exact jq fun w' _ => spanAdd iss 1 (by omega) (by decide) w'), (by cases sy; exact jo; exact jb fun _ => eql_iB q.ak ((spAdd iss 1 : Nat) : Int) ac hac _ _ _), (by (cases sy <;> exact jp)), jm, trivial⟩ trivial ?_
  clear O1 R1 hx1 S1 H
  rintro a w2 H _ ⟨O2, R2, hx2, S2⟩
  refine then_normal ?_
  have e : clHear iss x q = ans := hans0
  replace H := H.keep (l' := [(0, .pointer (some ⟨g, 0, none⟩)), (3, .pointer (some ⟨g3, 0, none⟩)), (6, .int .i64 (q.xs.length : Int)), (9, .bool nn), (41, .bool (sy && ac))]) ⟨rfl, rfl, rfl, rfl, rfl, trivial⟩
  cases hsa : sy && ac with
  | true =>
    rw [hsa] at hans H
    rw [if_pos rfl] at hans
    refine H.condT rfl ?_
    refine H.rg 4 fun a H => ?_
    refine H.ld 0 (O2.li 0 2) fun a H => ?_
    rw [hsq] at H
    refine H.cq 2 (spanAdd sq 1 (by omega) (by decide) w2) fun a H => ?_
    refine H.put1 (O2.get 1 rfl) 2 (fun u => store1_b _ _ _ u _) fun a w3 C3 g3' H => ?_
    have O3 := O2.turn 1 rfl g3' C3
    have R3 := R2.box g3' (Nat.le_refl g)
    refine H.put1 (O3.get 1 rfl) 2 (fun u => store1_i _ _ _ u _) fun a w4 C4 g4' H => ?_
    have O4 := O3.turn 1 rfl g4' C4
    have R4 := R3.box g4' (Nat.le_refl g)
    refine H.put1 (O4.get 1 rfl) 0 (fun u => store1_31 _ _ _ _ _ u _) fun a w5 C5 g5' H => nt ?_
    have O5 := O4.turn 1 rfl g5' C5
    have R5 := R4.box g5' (Nat.le_refl g)
    refine H.rg 1 fun a H => nt (wp_ret ?_)
    repeat (first | (with_reducible refine jump_ret ?_) | (with_reducible refine block_ret ?_) | (with_reducible refine then_ret ?_))
    refine bodyPost_ret (results_tmp rfl _ _ _) H.df ⟨_, congrArg Ending.returned (H.at_ 4 _ rfl), ⟨spAdd sq 1, true, []⟩, true, nilV, by rw [e, ← hans], rfl, drop1 O5, ⟨World.ownsRow_nil _ _ _ _, R5.2.1, fun k _ h => by cases h⟩, ((S2.box g3').box g4').box g5', .inr (.inl rfl)⟩
  | false =>
  rw [hsa] at hans H
  rw [if_neg (by decide)] at hans
  refine H.condF rfl ?_
  obtain ⟨up, hup⟩ : ∃ up, x.up = up := ⟨_, rfl⟩
  rw [hup] at hans
  have O2 : Own W B [(g3, sgL q (.slice A q.xs.length c)), (g, cliC ip mac port iss next x.wants up vG vl)] w2 := by rw [← hup]; exact O2
  replace H := H.keep (l' := [(0, .pointer (some ⟨g, 0, none⟩)), (3, .pointer (some ⟨g3, 0, none⟩)), (6, .int .i64 (q.xs.length : Int)), (9, .bool nn)]) ⟨rfl, rfl, rfl, rfl, trivial⟩
  refine H.tb (fun w' => Own W B [(g3, sgL q (.slice A q.xs.length c)), (g, cliC ip mac port iss next x.wants up vG vl)] w' ∧ CliR g x.got last vG vl w' ∧ RB w' w'.heap.size A q.xs ∧ Kp g vG w w') (fun _ _ h hb => ⟨h.1.call hb, h.2.1.next hb, h.2.2.1.next hb, h.2.2.2.next hb⟩) ⟨O2, R2, hx2, S2⟩
    [ec 0 66 (.pointer (some ⟨g, 0, none⟩)), ec 1 67 (.pointer (some ⟨g, 0, none⟩)), ec 2 68 (.pointer (some ⟨g, 6, none⟩)), ec 3 69 (.bool up), ec 4 70 (.bool (!up)), ec 5 71 (.bool (!up)), ec 6 72 (gv (!(!up)) (.pointer (some ⟨g3, 4, none⟩))), ec 7 73 (gv (!(!up)) (.int .i64 q.fl)), ec 8 74 (gv (!(!up)) (.int .i64 (bits .and .i64 q.fl 2))), ec 9 75 (gv (!(!up)) (.bool z2)), ec 10 76 (.bool ((!up) || z2)), ec 11 77 (.bool ((!up) || z2)), ec 12 78 (gv (!((!up) || z2)) (.bool nn)), ec 13 79 (gv (!((!up) || z2)) (.bool (!nn))), ec 14 80 (.bool (((!up) || z2) || (!nn))), ec 15 65 (.bool (((!up) || z2) || (!nn)))] rfl
    ⟨jm, jm, jm, jl fun _ h => load1_b _ _ _ _ ((Own.get h.1 1 rfl).get 6 _ rfl), ju (hq := run_not up), jm, (by cases up; exact jo; exact jm), (by cases up; exact jo; exact jl fun _ h => load1_i _ _ _ _ ((Own.get h.1 0 rfl).get 4 _ rfl)), (by cases up; exact jo; exact jb fun _ => and_bitC q.fl 2 _ _ _), (by cases up; exact jo; exact jb fun _ => neq_3 (bits .and .i64 q.fl 2) 0 z2 hz2 _ _ _), (by (cases up <;> exact jp)), jm, (by cases up; exact jo; cases z2; exact jm; exact jo), (by cases up; exact jo; cases z2; exact ju (hq := run_not nn); exact jo), (by cases up; exact jp; (cases z2 <;> exact jp)), jm, trivial⟩ ?_
  clear O2 R2 hx2 S2 H
  rintro a w2 H ⟨O2, R2, hx2, S2⟩
  refine then_normal (H.cond (t := (!up || z2) || !nn) rfl ?_)
  cases hno : (!up || z2) || !nn with
  | true =>
    rw [hno, if_pos rfl] at hans
    subst hans
    refine wp_goto ?_
    repeat (first | (with_reducible refine block_goto ?_) | (with_reducible refine then_goto ?_))
    exact jump_goto ⟨rfl, H.keep ⟨rfl, trivial⟩, vG, by rw [hup]; exact drop1 O2, R2, S2, .inl rfl⟩
  | false =>
  rw [hno, if_neg (by decide)] at hans
  refine skip_wp (block_normal (then_normal ?_))
  replace H := H.keep (l' := [(0, .pointer (some ⟨g, 0, none⟩)), (3, .pointer (some ⟨g3, 0, none⟩)), (6, .int .i64 (q.xs.length : Int))]) ⟨rfl, rfl, rfl, trivial⟩
  obtain ⟨AG, cG, rfl, _, _⟩ := own_shape R2.1
  refine H.sg (fun w' => Own W B [(g3, sgL q (.slice A q.xs.length c)), (g, cliC ip mac port iss next x.wants up (.slice AG x.got.length cG) vl)] w' ∧ CliR g x.got last (.slice AG x.got.length cG) vl w' ∧ RB w' w'.heap.size A q.xs ∧ Kp g (.slice AG x.got.length cG) w w') ⟨O2.drew, R2.next (Below.drew (Below.refl _ _)), hx2.next (Below.drew (Below.refl _ _)), S2.next (Below.drew (Below.refl _ _))⟩ [0, 3, 6] [ec 0 81 (.pointer (some ⟨g, 0, none⟩)), ec 1 82 (.pointer (some ⟨g, 0, none⟩)), ec 2 83 (.pointer (some ⟨g, 0, none⟩)), ec 3 84 (.pointer (some ⟨g, 7, none⟩)), ec 4 85 (.slice AG x.got.length cG), ec 5 86 (.pointer (some ⟨g3, 6, none⟩)), ec 6 87 (.slice A q.xs.length c)] rfl ?_
  refine St.appF (k := x.got.length) (m := q.xs.length) 7 info_u8 ⟨jm, jm, jm, jm, jl fun _ h => load1_31 _ _ _ _ _ _ ((h.1.get 1 rfl).get 7 _ rfl), jm, jl fun _ h => load1_31 _ _ _ _ _ _ ((h.1.get 0 rfl).get 6 _ rfl), trivial⟩ (fun _ h => ⟨h.2.1.1, h.2.2.1, Nat.succ_le_of_lt (h.1.lt 1 rfl)⟩) (bv_one q.xs) ⟨by unfold maxLen; omega, by omega⟩ ?_
  clear O2 R2 hx2 S2 H
  intro wv A' c' w' h hO hgr hfr
  have S5 : Kp g (.slice AG x.got.length cG) w w' := h.2.2.2.trans (Kp.grown hgr fun k e2 => .inr (.inl e2.symm))
  have hrel : RelV w (.slice AG x.got.length cG) (.slice A' (x.got.length + q.xs.length) c') := by
    rcases hfr with hf | hf
    · exact .inl hf
    · exact .inr (.inr ⟨_, hf, h.2.2.2.1⟩)
  rw [← List.map_append] at hO
  have hap : ∀ k, vl.ownBlock = some k → (Value.slice A' (x.got.length + q.xs.length) c').ownBlock ≠ some k := by
    intro k hk
    rcases hfr with hf | hf
    · rw [hf]; exact h.2.1.2.2 k hk
    · rw [hf]; intro e2; injection e2 with e2
      have := (h.2.1.2.1.lt k hk).2
      omega
  have hL : w'.ownsRow (g + 1) 5 1 vl last.length (last.map bv) := h.2.1.2.1.kept hgr (by
    rcases hv : vl.ownBlock with _ | k
    · exact .inl rfl
    · exact .inr fun e2 => h.2.1.2.2 k hv e2.symm)
  have O5 := h.1.row h.2.1.1 (Nat.le_succ_of_le hgB) hgr (by
    intro p hp
    simp only [List.mem_cons, List.not_mem_nil, or_false] at hp
    rcases hp with rfl | rfl
    · exact hF3
    · exact own_ne h.2.1.1 (.inl (Nat.lt_succ_self _)))
  refine nx (fun w' => Own W B [(g3, sgL q (.slice A q.xs.length c)), (g, cliC ip mac port iss next x.wants up (.slice AG x.got.length cG) vl)] w' ∧ (w'.ownsRow (g + 1) 5 1 (.slice A' (x.got.length + q.xs.length) c') (x.got.length + q.xs.length) ((x.got ++ q.xs).map bv)) ∧ w'.ownsRow (g + 1) 5 1 vl last.length (last.map bv) ∧ Kp g (.slice AG x.got.length cG) w w') [ec 8 89 (.pointer (some ⟨g, 0, none⟩)), ec 9 90 (.pointer (some ⟨g, 7, none⟩))] [] ⟨O5, hO, hL, S5⟩ ?_
  clear h hO hgr hfr hL O5 S5
  refine St.sto 10 ⟨jm, jm, jm, trivial⟩ ?_
  rintro a wu H _ ⟨Ou, B6, L6, S6⟩
  obtain ⟨k1, k2⟩ := (Ou.get 1 rfl) 7 _ rfl
  refine ⟨_, run_store rfl (H.ev rfl) (H.ev rfl) (store1_31 g 7 _ _ _ _ _ k1 k2), nx0 (fun w' => Own W B [(g3, sgL q (.slice A q.xs.length c)), (g, cliC ip mac port iss next x.wants up (.slice A' (x.got.length + q.xs.length) c') vl)] w' ∧ (w'.ownsRow (g + 1) 5 1 (.slice A' (x.got.length + q.xs.length) c') (x.got.length + q.xs.length) ((x.got ++ q.xs).map bv)) ∧ w'.ownsRow (g + 1) 5 1 vl last.length (last.map bv) ∧ Kp g (.slice AG x.got.length cG) w w') [] [] ⟨Ou.turn 1 rfl (grown_setCell _ _ _ _) ((Ou.get 1 rfl).set 7 _ (Nat.lt_of_sub_pos (Nat.succ_pos 1))), B6.kept (grown_setCell _ _ _ _) (.inr (own_ne B6 (.inl (Nat.lt_succ_self g))).symm), L6.kept (grown_setCell _ _ _ _) (.inr (own_ne L6 (.inl (Nat.lt_succ_self g))).symm), S6.box (grown_setCell _ _ _ _)⟩ (St.fin trivial ?_)⟩
  clear Ou B6 L6 S6 k1 k2 H
  rintro a w3 H _ ⟨O3, B3, L3, S3⟩
  refine then_normal ?_
  replace H := H.keep (l' := [(0, .pointer (some ⟨g, 0, none⟩)), (3, .pointer (some ⟨g3, 0, none⟩)), (6, .int .i64 (q.xs.length : Int))]) ⟨rfl, rfl, rfl, trivial⟩
  obtain ⟨n, hnn⟩ : ∃ n, q.xs.length + (if z1 = true then 1 else 0) = n := ⟨_, rfl⟩
  rw [hnn] at hans
  have hn2 : n ≤ 65537 := by rw [← hnn]; split <;> omega
  refine wp_seq_join (fun a w' => Has a 108 [(0, .pointer (some ⟨g, 0, none⟩)), (6, .int .i64 (n : Int))] ∧ Own W B [(g3, sgL q (.slice A q.xs.length c)), (g, cliC ip mac port iss next x.wants up (.slice A' (x.got.length + q.xs.length) c') vl)] w' ∧ (w'.ownsRow (g + 1) 5 1 (.slice A' (x.got.length + q.xs.length) c') (x.got.length + q.xs.length) ((x.got ++ q.xs).map bv)) ∧ w'.ownsRow (g + 1) 5 1 vl last.length (last.map bv) ∧ Kp g (.slice AG x.got.length cG) w w') ?_ ?_
  · refine H.rg 1 fun a H => ?_
    refine H.ld 0 (O3.li 0 4) fun a H => ?_
    refine H.bn 0 (and_bitC q.fl 1 _ _ _) fun a H => ?_
    refine H.bb 0 rfl rfl rfl rfl rfl rfl (neq_3 (bits .and .i64 q.fl 1) 0 z1 hz1 _ _ _) rfl fun a H => nt ?_
    cases z1 with
    | true =>
      rw [if_pos rfl] at hnn
      subst hnn
      refine H.condT rfl ?_
      refine H.rg 1 fun a H => ?_
      refine H.bn 1 (succ_i q.xs.length (by omega) _ _ _) fun a H => nt ?_
      exact ⟨H.keep ⟨rfl, rfl, trivial⟩, O3, B3, L3, S3⟩
    | false =>
      rw [if_neg (by decide)] at hnn
      subst hnn
      refine H.condF rfl (skip_wp (then_normal ?_))
      exact ⟨H.keep ⟨rfl, rfl, trivial⟩, O3, B3, L3, S3⟩
  clear O3 B3 L3 S3 H
  rintro a w4 ⟨H, O4, B4, L4, S4⟩
  refine H.rg 4 fun a H => ?_
  refine H.ld 1 (O4.li 1 5) fun a H => ?_
  refine H.cq 2 (spanAdd x.wants n (by omega) (by omega) w4) fun a H => ?_
  refine H.put1 (O4.get 1 rfl) 0 (fun u => store1_i _ _ _ u _) fun a w5 C5 g5' H => nt ?_
  have O5 := O4.turn 1 rfl g5' C5
  have S5 := S4.box g5'
  have B5 := B4.kept g5' (.inr (own_ne B4 (.inl (Nat.lt_succ_self g))).symm)
  have L5 := L4.kept g5' (.inr (own_ne L4 (.inl (Nat.lt_succ_self g))).symm)
  refine H.rg 1 fun a H => ?_
  refine H.bb 1 rfl rfl rfl rfl rfl rfl (gtr_i (n : Int) 0 (decide (0 < n)) (by rw [decide_eq_decide]; omega) _ _ _) rfl fun a H => nt (wp_ret ?_)
  repeat (first | (with_reducible refine jump_ret ?_) | (with_reducible refine block_ret ?_) | (with_reducible refine then_ret ?_))
  refine bodyPost_ret (results_tmp rfl _ _ _) H.df ⟨_, congrArg Ending.returned (H.at_ 4 _ rfl), ⟨spAdd x.wants n, up, x.got ++ q.xs⟩, decide (0 < n), .slice A' (x.got.length + q.xs.length) c', by rw [e, ← hans], rfl, drop1 O5, ⟨?_, L5, hap⟩, S5, hrel⟩
  show w5.ownsRow (g + 1) 5 1 _ (x.got ++ q.xs).length _
  rw [List.length_append]
  exact B5
end Go.Proofs.YtlacidnnankjlaaGreatDoor

/-
  What 'Put' leaves, in plain Lean: it is one thing; what may be may be again; bytes that come in order are told.
-/
namespace Go.Proofs.YtlacidnnankjlaaGreatDoor

/-- parts as they may be. -/
def PsOk (nq : Nat) (ps : List (Nat × List UInt8)) : Prop := ∀ p ∈ ps, p.1 ≤ 4294967295 ∧ 0 ≤ spDiff p.1 nq ∧ spDiff p.1 nq + (p.2.length : Int) ≤ 2048
end Go.Proofs.YtlacidnnankjlaaGreatDoor

/-
  A listener hears a segment.
-/
namespace Go.Proofs.YtlacidnnankjlaaGreatDoor
open Go.RowKit

/-- a listener. -/
structure Lst where
  up : Bool
  nq : Nat
  ps : List (Nat × List UInt8)
  b : List UInt8
  rst : Bool
  fins : List Nat
def Lst.zero : Lst := ⟨false, 0, [], [], false, []⟩
abbrev lstC (x : Lst) (AP : Option Addr) (cP : Nat) (vB vF : Value) : List Value := [.int .i64 (x.nq : Int), .slice AP x.ps.length cP, .bool x.up, vB, .bool x.rst, vF]
abbrev natV (n : Nat) : Value := .int .i64 (n : Int)
/-- blocks that a listener's parts may lie in. -/
def LstS (g : Nat) (vB vF : Value) (k : Nat) : Prop := g < k ∧ some k ≠ vB.ownBlock ∧ some k ≠ vF.ownBlock
/-- a listener in the memory, its rows. -/
def LstM (g : Nat) (x : Lst) (AP : Option Addr) (vB vF : Value) (w : World) : Prop :=
  w.ownsRow (g + 1) 5 1 vB x.b.length (x.b.map bv) ∧ w.ownsRow (g + 1) 3 1 vF x.fins.length (x.fins.map natV) ∧ PartsS w (LstS g vB vF) AP x.ps
theorem LstM.next {g : Nat} {x : Lst} {AP : Option Addr} {vB vF : Value} {w w' : World} (h : LstM g x AP vB vF w) (hb : Below w.heap.size w w') : LstM g x AP vB vF w' :=
  ⟨own_below h.1 hb, own_below h.2.1 hb, h.2.2.grown (below_grown hb none) (fun k e => by cases e)⟩
theorem LstM.box {g k0 : Nat} {x : Lst} {AP : Option Addr} {vB vF : Value} {w w' : World} (h : LstM g x AP vB vF w) (hg : w.grownBy w' (some k0)) (hk : k0 ≤ g) : LstM g x AP vB vF w' :=
  ⟨h.1.kept hg (.inr (own_ne h.1 (.inl (Nat.lt_succ_of_le hk))).symm), h.2.1.kept hg (.inr (own_ne h.2.1 (.inl (Nat.lt_succ_of_le hk))).symm), h.2.2.grown hg (fun k e hS => by injection e with e; have := hS.1; omega)⟩
theorem LstS.turn {g k : Nat} {vB vF vF' : Value} {w : World} (hfr : vF'.ownBlock = vF.ownBlock ∨ vF'.ownBlock = some w.heap.size) (h : LstS g vB vF k ∧ k < w.heap.size) : LstS g vB vF' k := by
  refine ⟨h.1.1, h.1.2.1, fun e => ?_⟩
  rcases hfr with hf | hf
  · rw [hf] at e; exact h.1.2.2 e
  · rw [hf] at e; injection e with e; omega
theorem RBS.fin {g : Nat} {vB vF vF' : Value} {A : Option Addr} {xs : List UInt8} {w w' : World} (h : RBS w (LstS g vB vF) A xs) (hg : w.grownBy w' vF.ownBlock) (hfr : vF'.ownBlock = vF.ownBlock ∨ vF'.ownBlock = some w.heap.size) : RBS w' (LstS g vB vF') A xs :=
  ((h.mono (S' := fun k => LstS g vB vF k ∧ k < w.heap.size) (fun _ hk hS => ⟨hS, hk⟩)).grown hg (fun _k e hS => hS.1.2.2 e.symm)).mono fun _ _ hS => LstS.turn hfr hS
theorem LstM.fin {g n : Nat} {x : Lst} {AP : Option Addr} {vB vF vF' : Value} {w w' : World} (h : LstM g x AP vB vF w) (hO : w'.ownsRow (g + 1) 3 1 vF' (x.fins.length + 1) (x.fins.map natV ++ [natV n])) (hg : w.grownBy w' vF.ownBlock) (hfr : vF'.ownBlock = vF.ownBlock ∨ vF'.ownBlock = some w.heap.size) : LstM g { x with fins := x.fins ++ [n] } AP vB vF' w' :=
  ⟨h.1.kept hg (own_apart h.1 h.2.1 rfl), by
    show w'.ownsRow (g + 1) 3 1 vF' (x.fins ++ [n]).length ((x.fins ++ [n]).map natV)
    rw [List.length_append, List.map_append]; exact hO,
   ((h.2.2.mono (S' := fun k => LstS g vB vF k ∧ k < w.heap.size) (fun _ hk hS => ⟨hS, hk⟩)).grown hg (fun k e hS => hS.1.2.2 e.symm)).mono fun _ _ hS => LstS.turn hfr hS⟩
/-- in the middle of hearing. -/
def HearF (W : World) (B g g3 : Nat) (L3 : List Value) (x : Lst) (AP : Option Addr) (cP : Nat) (vB vF : Value) (A : Option Addr) (xs : List UInt8) (w : World) : Prop :=
  Own W B [(g3, L3), (g, lstC x AP cP vB vF)] w ∧ LstM g x AP vB vF w ∧ RBS w (LstS g vB vF) A xs
theorem HearF.next {W : World} {B g g3 : Nat} {L3 : List Value} {x : Lst} {AP : Option Addr} {cP : Nat} {vB vF : Value} {A : Option Addr} {xs : List UInt8} {w w' : World} (h : HearF W B g g3 L3 x AP cP vB vF A xs w) (hb : Below w.heap.size w w') : HearF W B g g3 L3 x AP cP vB vF A xs w' :=
  ⟨h.1.call hb, h.2.1.next hb, h.2.2.grown (below_grown hb none) (fun k e => by cases e)⟩
/-- what a listener has heard of a segment. -/
def HearG (q : Sg) (sq : Nat) (x x' : Lst) : Prop :=
  if (bits .and .i64 q.fl 2 != 0) = true then x' = ⟨true, spAdd sq 1, [], [], false, []⟩
  else if x.up = false then x' = x
  else ∃ nq' ps' told, PutG x.nq x.ps sq q.xs nq' ps' told ∧ x' = ⟨true, nq', ps', x.b ++ told, x.rst || (bits .and .i64 q.fl 4 != 0), if (bits .and .i64 q.fl 1 != 0) = true then x.fins ++ [spAdd sq q.xs.length] else x.fins⟩
theorem Cells.pre {w : World} {g : Nat} {l1 l2 : List Value} (h : Cells w g (l1 ++ l2)) : Cells w g l1 := fun j v hv => h j v (by rw [List.getElem?_append_left (List.getElem?_eq_some_iff.1 hv).1]; exact hv)
/-- behind 'Put'. -/
def PutF (W : World) (B g : Nat) (bs : List (Nat × List Value)) (xs : List UInt8) (fs : List Nat) (vB vF : Value) (S : Nat → Prop) (ps : List (Nat × List UInt8)) (A' : Option Addr) (told : List UInt8) (A2 : Option Addr) (w : World) : Prop :=
  Own W B bs w ∧ (w.ownsRow (g + 1) 5 1 vB xs.length (xs.map bv) ∧ w.ownsRow (g + 1) 3 1 vF fs.length (fs.map natV)) ∧ PartsS w S A' ps ∧ RBS w S A2 told
theorem PutF.next {W : World} {B g : Nat} {bs : List (Nat × List Value)} {xs : List UInt8} {fs : List Nat} {vB vF : Value} {S : Nat → Prop} {ps : List (Nat × List UInt8)} {A' : Option Addr} {told : List UInt8} {A2 : Option Addr} {w w' : World} (h : PutF W B g bs xs fs vB vF S ps A' told A2 w) (hb : Below w.heap.size w w') : PutF W B g bs xs fs vB vF S ps A' told A2 w' :=
  ⟨h.1.call hb, ⟨own_below h.2.1.1 hb, own_below h.2.1.2 hb⟩, h.2.2.1.grown (below_grown hb none) (fun k e => by cases e), h.2.2.2.grown (below_grown hb none) (fun k e => by cases e)⟩
end Go.Proofs.YtlacidnnankjlaaGreatDoor

/-
  What a listener has heard of frames, in plain Lean.
-/
namespace Go.Proofs.YtlacidnnankjlaaGreatDoor

/-- the segment that a frame carries from the kernel to a port. -/
def toldTo (ti port : Int) (b : List UInt8) : Option Sg :=
  match segIn b with
  | some (p, q) => if p.s = 167772161 ∧ p.d = ti ∧ q.sp = 1883 ∧ q.dp = port then some q else none
  | none => none
inductive Heard (ti port : Int) : List (List UInt8) → Lst → Lst → Prop
  | nil {x : Lst} : Heard ti port [] x x
  | skip {b : List UInt8} {l : List (List UInt8)} {x y : Lst} (h1 : toldTo ti port b = none) (h : Heard ti port l x y) : Heard ti port (b :: l) x y
  | take {b : List UInt8} {l : List (List UInt8)} {q : Sg} {x x1 y : Lst} (h1 : toldTo ti port b = some q) (h2 : HearG q q.sq.toNat x x1) (h : Heard ti port l x1 y) : Heard ti port (b :: l) x y
section
variable {ti port : Int} {b : List UInt8} {l : List (List UInt8)} {q : Sg} {x y z : Lst}
theorem Heard.none (h : Heard ti port (b :: l) x y) (hn : toldTo ti port b = none) : Heard ti port l x y := by
  cases h with
  | skip _ h => exact h
  | take h1 => rw [hn] at h1; cases h1
theorem Heard.some (h : Heard ti port (b :: l) x y) (hs : toldTo ti port b = some q) : ∃ x1, HearG q q.sq.toNat x x1 ∧ Heard ti port l x1 y := by
  cases h with
  | skip h1 => rw [hs] at h1; cases h1
  | take h1 h2 h =>
    rw [hs] at h1
    injection h1 with h1
    subst h1
    exact ⟨_, h2, h⟩
theorem Heard.append {l' : List (List UInt8)} (h : Heard ti port l x y) (h' : Heard ti port l' y z) : Heard ti port (l ++ l') x z := by
  induction h with
  | nil => exact h'
  | skip h1 _ ih => exact .skip h1 (ih h')
  | take h1 h2 _ ih => exact .take h1 h2 (ih h')
end
/-- a listener as it may be, behind n frames. -/
def LstOk (n : Nat) (x : Lst) : Prop := x.nq ≤ 4294967295 ∧ x.ps.length ≤ 8 ∧ PsOk x.nq x.ps ∧ x.b.length ≤ 2048 * n ∧ x.fins.length ≤ n
theorem LstOk.zero : LstOk 0 Lst.zero := ⟨by decide, by decide, fun p hp => (by cases hp), by decide, by decide⟩
theorem LstOk.more {n m : Nat} {x : Lst} (h : LstOk n x) (hm : n ≤ m) : LstOk m x := ⟨h.1, h.2.1, h.2.2.1, by have := h.2.2.2.1; omega, by have := h.2.2.2.2; omega⟩
section
variable {nq : Nat} {sq : Nat} {xs : List UInt8} {nq' : Nat} {ps' : List (Nat × List UInt8)} {told : List UInt8}
end
end Go.Proofs.YtlacidnnankjlaaGreatDoor

/-
  trace.Stream: what a listener hears of frames.
-/
namespace Go.Proofs.YtlacidnnankjlaaGreatDoor
open Go.RowKit

/-- frames in the memory, in blocks of which S holds. -/
def FrsS (w : World) (S : Nat → Prop) (A : Option Addr) (l : List (List UInt8)) : Prop :=
  ∀ k b, l[k]? = some b → ∃ g o A' c', A = some ⟨g, o, none⟩ ∧ S g ∧ g < w.heap.size ∧ w.cell? ⟨g, o + k, none⟩ = some (.slice A' b.length c') ∧ b.length ≤ c' ∧ RBS w S A' b
theorem FrsS.mono {w : World} {S S' : Nat → Prop} {A : Option Addr} {l : List (List UInt8)} (h : FrsS w S A l) (hS : ∀ k, k < w.heap.size → S k → S' k) : FrsS w S' A l := by
  intro k b hk
  obtain ⟨g, o, A', c', h1, h2, h3, h4, h5, h6⟩ := h k b hk
  exact ⟨g, o, A', c', h1, hS _ h3 h2, h3, h4, h5, h6.mono hS⟩
theorem FrsS.grown {w w' : World} {S : Nat → Prop} {A : Option Addr} {l : List (List UInt8)} {r : Option Nat} (h : FrsS w S A l) (hg : w.grownBy w' r) (hr : ∀ k, r = some k → ¬ S k) : FrsS w' S A l := by
  intro k b hk
  obtain ⟨g, o, A', c', h1, h2, h3, h4, h5, h6⟩ := h k b hk
  exact ⟨g, o, A', c', h1, h2, Nat.lt_of_lt_of_le h3 hg.size, hg.cell h4 (fun e => hr _ e.symm h2), h5, h6.grown hg hr⟩
theorem FrsS.next {w w' : World} {S : Nat → Prop} {A : Option Addr} {l : List (List UInt8)} (h : FrsS w S A l) (hb : Below w.heap.size w w') : FrsS w' S A l := h.grown (below_grown hb none) (fun k e => by cases e)
theorem num2_lt4 (xs : List UInt8) (k : Nat) : num2 xs k 4 < 4294967296 := by
  have h1 := ofB_lt ((xs.drop k).take 4)
  have h2 : (256 : Nat) ^ ((xs.drop k).take 4).length ≤ 256 ^ 4 := Nat.pow_le_pow_right (by omega) (by rw [List.length_take]; omega)
  unfold num2
  omega
theorem segOut_ok {s d : Int} {xs : List UInt8} (h : (segOut s d xs).2 = 0) : (segOut s d xs).1 = sgParsed xs ∧ xs.length ≤ 1480 := by
  unfold segOut at h ⊢
  by_cases h1 : wordB s = false ∨ wordB d = false
  · rw [if_pos h1] at h; cases h
  rw [if_neg h1] at h ⊢
  by_cases h2 : xs.length < 20
  · rw [if_pos h2] at h; cases h
  rw [if_neg h2] at h ⊢
  by_cases h3 : sgN xs < 20
  · rw [if_pos h3] at h; cases h
  rw [if_neg h3] at h ⊢
  by_cases h4 : xs.length < sgN xs
  · rw [if_pos h4] at h; cases h
  rw [if_neg h4] at h ⊢
  by_cases h5 : 1480 < xs.length
  · rw [if_pos h5] at h; cases h
  rw [if_neg h5] at h ⊢
  by_cases h6 : segSum s.toNat d.toNat xs ≠ 0
  · rw [if_pos h6] at h; cases h
  rw [if_neg h6]
  exact ⟨rfl, Nat.le_of_not_lt h5⟩
theorem segIn_ok {b : List UInt8} {p : Pk} {q : Sg} (h : segIn b = some (p, q)) : q.sq = (q.sq.toNat : Int) ∧ q.sq.toNat ≤ 4294967295 ∧ q.xs.length ≤ 1480 := by
  unfold segIn at h
  by_cases h1 : (frOut b).2 ≠ 0 ∨ (frOut b).1.t ≠ 2048
  · rw [if_pos h1] at h; cases h
  rw [if_neg h1] at h
  by_cases h2 : (parseOut (frOut b).1.xs).2 ≠ 0 ∨ (parseOut (frOut b).1.xs).1.p ≠ 6
  · rw [if_pos h2] at h; cases h
  rw [if_neg h2] at h
  by_cases h3 : (segOut (parseOut (frOut b).1.xs).1.s (parseOut (frOut b).1.xs).1.d (parseOut (frOut b).1.xs).1.xs).2 ≠ 0
  · rw [if_pos h3] at h; cases h
  rw [if_neg h3] at h
  injection h with h
  injection h with _ h
  obtain ⟨h4, h5⟩ := segOut_ok (Decidable.not_not.1 h3)
  rw [h4] at h
  subst h
  generalize (parseOut (frOut b).1.xs).1.xs = xs at h5
  have := num2_lt4 xs 4
  refine ⟨rfl, Nat.le_of_lt_succ this, ?_⟩
  show (xs.drop (sgN xs)).length ≤ _
  rw [List.length_drop]
  omega
/-- behind k frames. -/
def StrJ (W : World) (gx : Nat) (ti port : Int) (l : List (List UInt8)) (k : Nat) (w : World) : Prop :=
  ∃ x AP cP vB vF, Heard ti port (l.take k) .zero x ∧ LstOk k x ∧ Own W W.heap.size [(gx, lstC x AP cP vB vF)] w ∧ LstM gx x AP vB vF w
theorem StrJ.next {W : World} {gx : Nat} {ti port : Int} {l : List (List UInt8)} {k : Nat} {w w' : World} (h : StrJ W gx ti port l k w) (hb : Below w.heap.size w w') : StrJ W gx ti port l k w' := by
  obtain ⟨x, AP, cP, vB, vF, h1, h2, h3, h4⟩ := h
  exact ⟨x, AP, cP, vB, vF, h1, h2, h3.call hb, h4.next hb⟩
theorem StrJ.skip {W : World} {gx : Nat} {ti port : Int} {l : List (List UInt8)} {k : Nat} {w : World} {b : List UInt8} (h : StrJ W gx ti port l k w) (hb : l[k]? = some b) (hn : toldTo ti port b = none) : StrJ W gx ti port l (k + 1) w := by
  obtain ⟨x, AP, cP, vB, vF, h1, h2, h3, h4⟩ := h
  refine ⟨x, AP, cP, vB, vF, ?_, h2.more (Nat.le_succ _), h3, h4⟩
  rw [List.take_add_one, hb]
  exact h1.append (.skip hn .nil)
theorem segInV_shape {W : World} {o : Option (Pk × Sg)} {v : Value} {w : World} (h : SegInV W o v w) : ∃ p q A0 n0 c0 A1 c1 z, v = .tuple #[.agg (pkL p (.slice A0 n0 c0)).toArray, .agg (sgL q (.slice A1 q.xs.length c1)).toArray, .bool z] ∧ Below W.heap.size W w ∧ (z = false → o = none) ∧ (z = true → o = some (p, q) ∧ w.ownsRow W.heap.size 5 1 (.slice A1 q.xs.length c1) q.xs.length (q.xs.map bv)) := by
  rcases o with _ | ⟨p, q⟩
  · exact ⟨.zero, .zero, none, 0, 0, none, 0, false, h.1, h.2, fun _ => rfl, fun h => by cases h⟩
  · obtain ⟨A0, n0, c0, A, c, rfl, h1, h2⟩ := h
    exact ⟨p, q, A0, n0, c0, A, c, true, rfl, h2, fun h => (by cases h), fun _ => ⟨rfl, h1⟩⟩
end Go.Proofs.YtlacidnnankjlaaGreatDoor

/-
  A client hears frames.
-/
namespace Go.Proofs.YtlacidnnankjlaaGreatDoor
open Go.RowKit

theorem eql_k (u v : Int) (b : Bool) (h : (u == v) = b) (x y : Operand) (w : World) : (do eqGuard .eql 27 x y (.int .i64 u) (.int .i64 v); binOp .eql 27 (.int .i64 u) (.int .i64 v) : Sem Value).run Tryz.prog w = .ok (.bool b) w := by
  rw [← h]
  simp [go_sem]
theorem FrsS.kp {w w' : World} {S : Nat → Prop} {A : Option Addr} {l : List (List UInt8)} {g : Nat} {v : Value} (h : FrsS w S A l) (hS : ∀ k, S k → k ≠ g ∧ some k ≠ v.ownBlock) (hk : Kp g v w w') : FrsS w' S A l := by
  intro k b hb
  obtain ⟨g', o, A', c', h1, h2, h3, h4, h5, h6⟩ := h k b hb
  refine ⟨g', o, A', c', h1, h2, Nat.lt_of_lt_of_le h3 hk.1, (World.cell?_of_block (a := ⟨g', o + k, none⟩) (hk.2 g' h3 (hS g' h2).1 (hS g' h2).2)).trans h4, h5, fun hn => ?_⟩
  obtain ⟨ad, e, k1, k2, k3⟩ := h6 hn
  refine ⟨ad, e, k1, Nat.lt_of_lt_of_le k2 hk.1, fun j u hu => ?_⟩
  have hb : (ad.add j).block = ad.block := block_of_add ..
  exact (World.cell?_of_block (a := ad.add j) (by rw [hb]; exact hk.2 _ k2 (hS _ k1).1 (hS _ k1).2)).trans (k3 j u hu)
/-- the segment that a frame carries from the kernel to a client. -/
def toldCli (mac ip port : Nat) (b : List UInt8) : Option Sg :=
  match segIn b with
  | some (p, q) => if ((((((frOut b).2 == 0) && ((frOut b).1.d : Int) == (mac : Int)) && p.s == 167772161) && p.d == (ip : Int)) && q.sp == 1883) && q.dp == (port : Int) then some q else none
  | none => none
def clHears (mac ip port iss : Nat) : Cl → Bool → List (List UInt8) → Cl × Bool
  | x, t, [] => (x, t)
  | x, t, b :: l => match toldCli mac ip port b with
    | some q => clHears mac ip port iss (clHear iss x q).1 (t || (clHear iss x q).2) l
    | none => clHears mac ip port iss x t l
theorem drop_get {l : List (List UInt8)} {k : Nat} {b : List UInt8} (h : l[k]? = some b) : l.drop k = b :: l.drop (k + 1) := by
  obtain ⟨hk, e⟩ := List.getElem?_eq_some_iff.1 h
  rw [List.drop_eq_getElem_cons hk, e]
theorem clHear_ok {iss : Nat} {x : Cl} {q : Sg} (h : x.wants ≤ 4294967295) (hq : q.xs.length ≤ 1480) : (clHear iss x q).1.wants ≤ 4294967295 ∧ (clHear iss x q).1.got.length ≤ x.got.length + 1480 := by
  unfold clHear
  have h1 := spAdd_lt q.sq.toNat 1
  split
  · exact ⟨h, Nat.le_add_right _ _⟩
  split
  · exact ⟨by show spAdd q.sq.toNat 1 ≤ _; omega, by simp⟩
  split
  · exact ⟨h, Nat.le_add_right _ _⟩
  · refine ⟨Nat.le_of_lt_succ (spAdd_lt _ _), ?_⟩
    show (x.got ++ q.xs).length ≤ _
    rw [List.length_append]
    omega
/-- behind k frames. -/
structure ChJ (W : World) (B g ip mac port iss next : Nat) (x0 : Cl) (last : List UInt8) (vl : Value) (l : List (List UInt8)) (w0 : World) (vG0 : Value) (k : Nat) (t : Bool) (x : Cl) (vG : Value) (w : World) : Prop where
  h : clHears mac ip port iss x0 false l = clHears mac ip port iss x t (l.drop k)
  wn : x.wants ≤ 4294967295
  gl : x.got.length ≤ x0.got.length + 1480 * k
  O : Own W B [(g, cliC ip mac port iss next x.wants x.up vG vl)] w
  R : CliR g x.got last vG vl w
  K : Kp g vG0 w0 w
  V : RelV w0 vG0 vG
theorem ChJ.next {W : World} {B g ip mac port iss next : Nat} {x0 x : Cl} {last : List UInt8} {vl vG0 vG : Value} {l : List (List UInt8)} {w0 w w' : World} {k : Nat} {t : Bool} (J : ChJ W B g ip mac port iss next x0 last vl l w0 vG0 k t x vG w) (hb : Below w.heap.size w w') : ChJ W B g ip mac port iss next x0 last vl l w0 vG0 k t x vG w' :=
  ⟨J.h, J.wn, J.gl, J.O.call hb, J.R.next hb, J.K.next hb, J.V⟩
set_option maxRecDepth 100000 in
set_option maxHeartbeats 3200000 in
theorem cliHears (W : World) (B g ip mac port iss next : Nat) (x0 : Cl) (last : List UInt8) (vG0 vl : Value) (l : List (List UInt8)) (AL : Option Addr) (cL : Nat) (w : World) (O : Own W B [(g, cliC ip mac port iss next x0.wants x0.up vG0 vl)] w) (R : CliR g x0.got last vG0 vl w)
    (hL : FrsS w (fun k => k ≠ g ∧ some k ≠ vG0.ownBlock) AL l) (hl : l.length ≤ 1000) (hlb : ∀ b ∈ l, b.length ≤ 140737488351232) (hw : x0.wants ≤ 4294967295) (hgl : x0.got.length ≤ 10000000) (hip : ip < 4294967296) (hm : mac < 281474976710656) (hp : port < 65536) (hi : iss < 4294967296) (hne : next < 4294967296) :
    Calls Tryz.prog 12 #[.pointer (some ⟨g, 0, none⟩), .slice AL l.length cL] w fun e w' => ∃ v, e = .returned v ∧ ∃ x t vG, clHears mac ip port iss x0 false l = (x, t) ∧ x.wants ≤ 4294967295 ∧ x.got.length ≤ x0.got.length + 1480 * l.length ∧ Own W B [(g, cliC ip mac port iss next x.wants x.up vG vl)] w' ∧ CliR g x.got last vG vl w' ∧ Kp g vG0 w w' ∧ RelV w vG0 vG ∧
      (t = false → v = nilV) ∧ (t = true → ∃ gr A n c, v = .slice (some ⟨gr, 0, none⟩) 1 1 ∧ w.heap.size ≤ gr ∧ gr < w'.heap.size ∧ w'.cell? ⟨gr, 0, none⟩ = some (.slice A n c) ∧ RowIs w.heap.size (wire 2199023255553 mac ip 167772161 ⟨port, 1883, next, x.wants, 16, 65535, []⟩) (.slice A n c) w') := by
  go_enter Tryz.func12, Tryz.ntmps12
  refine Has.start 91 [(0, .pointer (some ⟨g, 0, none⟩)), (1, .slice AL l.length cL)] rfl rfl ⟨rfl, rfl, trivial⟩ ?_
  intro a0 H0
  refine H0.rg 1 fun a H => nt ?_
  refine H.rg 1 fun a H => nt ?_
  refine H.rg 1 fun a H => ?_
  refine H.len gz rfl rfl rfl rfl Tryz.underlying37 fun a H => ?_
  refine H.ms 1 fun a H => nt ?_
  refine wp_block ?_
  refine wp_loop_up l.length (fun k a w' => ∃ t x vG, Has a 91 [(0, .pointer (some ⟨g, 0, none⟩)), (5, .bool t), (13, .slice AL l.length cL), (14, .int .i64 (l.length : Int)), (15, .int .i64 (k : Int))] ∧ ChJ W B g ip mac port iss next x0 last vl l w vG0 k t x vG w') ⟨false, x0, vG0, H.keep ⟨rfl, rfl, rfl, rfl, rfl, trivial⟩, ⟨rfl, hw, Nat.le_add_right _ _, O, R, Kp.refl _ _ _, .inl rfl⟩⟩ ?_
  clear H H0 O R
  rintro k a w2 hk ⟨t, x, vG, H, J⟩
  refine H.rg 0 fun a H => ?_
  by_cases hlt : k < l.length
  rotate_left
  · refine H.bb 0 rfl rfl rfl rfl rfl rfl (lss_i _ _ false (by rw [decide_eq_false_iff_not]; omega) _ _ _) rfl fun a H => nt (wp_seq (H.condF rfl ?_))
    refine wp_exit ?_
    repeat (with_reducible refine then_exit ?_)
    refine block_leave (then_normal ?_)
    have : k = l.length := by omega
    subst this
    have hfin : clHears mac ip port iss x0 false l = (x, t) := by
      rw [J.h, List.drop_length]
      rfl
    have hss := J.O.lt 0 rfl
    refine H.rg 1 fun a H => ?_
    refine H.un gz rfl rfl rfl rfl (run_not t _) fun a H => nt ?_
    cases t with
    | false =>
      refine H.condT rfl ?_
      refine H.rg 1 fun a H => nt (wp_ret ?_)
      repeat (first | (with_reducible refine block_ret ?_) | (with_reducible refine then_ret ?_))
      exact bodyPost_ret (results_tmp rfl _ _ _) H.df ⟨_, congrArg Ending.returned (H.at_ 4 _ rfl), x, false, vG, hfin, J.wn, J.gl, J.O, J.R, J.K, J.V, fun _ => rfl, fun h => by cases h⟩
    | true =>
      refine H.condF rfl (skip_wp (then_normal ?_))
      replace H := H.keep (l' := [(0, .pointer (some ⟨g, 0, none⟩))]) ⟨rfl, trivial⟩
      have hqq : Sg.ok ⟨port, 1883, (next : Nat), ((x.wants : Nat) : Int), ((16 : Nat) : Int), 65535, []⟩ = true := sg_okN port 1883 next x.wants 16 65535 [] (by omega) (by decide) (by omega) J.wn (by decide) (by decide) (by decide)
      refine H.sg (fun w' => ChJ W B g ip mac port iss next x0 last vl l w vG0 l.length true x vG w') (J.next (Below.drew (Below.refl _ _))) [0] [ec 0 80 (.pointer (some ⟨g, 0, none⟩)), ec 1 81 (.pointer (some ⟨g, 0, none⟩)), ec 2 82 (.pointer (some ⟨g, 0, none⟩)), ec 3 83 (.pointer (some ⟨g, 4, none⟩)), ec 4 84 (.int .i64 (next : Int)), ec 5 85 (.pointer (some ⟨g, 0, none⟩)), ec 6 86 (.pointer (some ⟨g, 0, none⟩)), ec 7 87 (.pointer (some ⟨g, 5, none⟩)), ec 8 88 (.int .i64 (x.wants : Int))] rfl ?_
      have KK : ∀ wy, ChJ W B g ip mac port iss next x0 last vl l w vG0 l.length true x vG wy → _ := fun wy h => cliSegment g ip mac port iss next x.wants x.up vG vl next x.wants 16 [] 0 rfl none 0 wy (h.O.get 0 rfl) (h.O.lt 0 rfl) hip hm hqq RB.nil
      refine St.call 9 ⟨jm, jm, jm, jm, jl fun _ h => load1_i _ _ _ _ ((h.O.get 0 rfl).get 4 _ rfl), jm, jm, jm, jl fun _ h => load1_i _ _ _ _ ((h.O.get 0 rfl).get 5 _ rfl), trivial⟩ KK ?_
      rintro wx v wz hh ⟨hrow, hbz⟩
      obtain ⟨An, cn, rfl, hO⟩ := hrow
      generalize hln : (wire 2199023255553 mac ip 167772161 ⟨port, 1883, next, x.wants, 16, 65535, []⟩) = ww at hO ⊢
      obtain ⟨nn, hnn⟩ : ∃ nn, ww.length = nn := ⟨_, rfl⟩
      rw [hnn] at hO ⊢
      refine nx (fun w' => ChJ W B g ip mac port iss next x0 last vl l w vG0 l.length true x vG w' ∧ RowIs w.heap.size ww (.slice An nn cn) w' ∧ w.heap.size ≤ w'.heap.size) [] [] ⟨hh.next hbz, RowIs.of hnn (own_base hO hh.K.1), Nat.le_trans hh.K.1 hbz.size⟩ ?_
      refine St.val 10 trivial ?_
      clear hO hbz hh
      rintro a wu H _ ⟨J2, hr2, hs2⟩
      have hb2 : Below wu.heap.size wu (wu.alloc (.cells #[.slice An nn cn] 31)) := balloc _ _
      refine ⟨.slice (some ⟨wu.heap.size, 0, none⟩) 1 1, wu.alloc (.cells #[.slice An nn cn] 31), run_any H (by intro cs b h; cases h) (by kernel_rfl) (by kernel_rfl), ?_⟩
      have hC2 := Cells.of_heap (heap_alloc_new wu (.cells #[.slice An nn cn] 31))
      have hl2 := lt_alloc wu (.cells #[.slice An nn cn] 31)
      generalize wu.alloc (.cells #[.slice An nn cn] 31) = wv at hb2 hC2 hl2 ⊢
      obtain ⟨gr, hgr⟩ : ∃ gr, wu.heap.size = gr := ⟨_, rfl⟩
      rw [hgr] at hC2 hl2 ⊢
      refine nx (fun w' => ChJ W B g ip mac port iss next x0 last vl l w vG0 l.length true x vG w' ∧ RowIs w.heap.size ww (.slice An nn cn) w' ∧ gr < w'.heap.size ∧ w'.cell? ⟨gr, 0, none⟩ = some (.slice An nn cn)) [ec 11 4 (.slice (some ⟨gr, 0, none⟩) 1 1)] [] ⟨J2.next hb2, hr2.below hb2, hl2, (hC2 0 _ rfl).1⟩ (St.fin ⟨jm, trivial⟩ ?_)
      rintro a w9 H _ ⟨J9, hr9, hl9, hc9⟩
      refine then_normal (wp_ret ?_)
      repeat (first | (with_reducible refine block_ret ?_) | (with_reducible refine then_ret ?_))
      exact bodyPost_ret (results_tmp rfl _ _ _) H.df ⟨_, congrArg Ending.returned (H.at_ 4 _ rfl), x, true, vG, hfin, J9.wn, J9.gl, J9.O, J9.R, J9.K, J9.V, fun h => (by cases h), fun _ => ⟨gr, An, nn, cn, rfl, hgr ▸ hs2, hl9, hc9, hln ▸ hr9⟩⟩
  refine H.bb 0 rfl rfl rfl rfl rfl rfl (lss_i _ _ true (by rw [decide_eq_true_iff]; omega) _ _ _) rfl fun a H => nt (wp_seq (H.condT rfl ?_))
  refine skip_wp (then_normal (wp_seq (wp_block ?_)))
  obtain ⟨b, hb⟩ : ∃ b, l[k]? = some b := ⟨_, List.getElem?_eq_getElem hlt⟩
  have hb8 := hlb b (List.mem_of_getElem? hb)
  have hL2 := hL.kp (fun _ h => h) J.K
  obtain ⟨gl, ol, A', c', rfl, _, hgl2, hck, hbc, hrb⟩ := hL2 k b hb
  have hdr := drop_get hb
  refine H.rg 0 fun a H => ?_
  refine H.index gz rfl rfl rfl rfl rfl (index_1 37 Tryz.underlying37 (fun _ => by kernel_rfl) gl ol l.length cL k hlt w2) fun a H => ?_
  refine H.ld 1 (load1_31 _ _ _ _ _ _ hck) fun a H => nt ?_
  replace H := H.keep (l' := [(0, .pointer (some ⟨g, 0, none⟩)), (5, .bool t), (13, .slice (some ⟨gl, ol, none⟩) l.length cL), (14, .int .i64 (l.length : Int)), (15, .int .i64 (k : Int)), (7, .slice A' b.length c')]) ⟨rfl, rfl, rfl, rfl, rfl, rfl, trivial⟩
  refine H.rg 1 fun a H => ?_
  refine H.cl (ethParse b b.length rfl A' c' hbc w2 hrb.rb hb8) ?_
  rintro a _ w3 ⟨A2, c2', rfl, _, hb3⟩ H
  refine H.ms 1 fun a H => ?_
  refine H.ex (r := .agg ([.int .i64 ((frOut b).1.d : Int), .int .i64 ((frOut b).1.s : Int), .int .i64 ((frOut b).1.t : Int), .slice A2 (frOut b).1.xs.length c2'] : List Value).toArray) 0 fun a H => ?_
  refine H.ex (r := .int .i64 (frOut b).2) 0 fun a H => ?_
  refine H.nk (Own.start w3) 1 (L := [.int .i64 ((frOut b).1.d : Int), .int .i64 ((frOut b).1.s : Int), .int .i64 ((frOut b).1.t : Int), .slice A2 (frOut b).1.xs.length c2']) rfl zero_frame size_frame (fun a w4 hb4 O4 _ H => nt ?_)
  have J4 := (J.next hb3).next hb4
  have hr4 := (hrb.rb.next hb3).next hb4
  obtain ⟨g8, hg8⟩ : ∃ g8, w3.heap.size = g8 := ⟨_, rfl⟩
  rw [hg8] at O4 H
  replace H := H.keep (l' := [(0, .pointer (some ⟨g, 0, none⟩)), (5, .bool t), (13, .slice (some ⟨gl, ol, none⟩) l.length cL), (14, .int .i64 (l.length : Int)), (15, .int .i64 (k : Int)), (7, .slice A' b.length c'), (8, .pointer (some ⟨g8, 0, none⟩)), (9, .int .i64 (frOut b).2)]) ⟨rfl, rfl, rfl, rfl, rfl, rfl, rfl, rfl, trivial⟩
  refine H.rg 1 fun a H => ?_
  refine H.cl (traceSegment b A' c' hbc w4 hr4 hb8) ?_
  intro a v w5 hv H
  obtain ⟨p, q, A0, n0, c0', A1, c1, zs, rfl, hb5, hz, hsm⟩ := segInV_shape hv
  refine H.ms 1 fun a H => ?_
  refine H.ex (r := .agg (pkL p (.slice A0 n0 c0')).toArray) 0 fun a H => ?_
  refine H.ex (r := .agg (sgL q (.slice A1 q.xs.length c1)).toArray) 0 fun a H => ?_
  refine H.ex (r := .bool zs) 0 fun a H => ?_
  refine H.al (Own.start w5) 0 zero_pk27 fun a w6 O6 H => ?_
  obtain ⟨g10, hg10⟩ : ∃ g10, w5.heap.size = g10 := ⟨_, rfl⟩
  rw [hg10] at O6 H
  refine H.al O6 0 zero_sg27 fun a w7 O7 H => ?_
  generalize w6.heap.size = g11 at O7 H
  refine H.st O7 1 0 (L := pkL p (.slice A0 n0 c0')) (fun a w8 O8 H => ?_) size_pk27
  refine H.st O8 0 1 (L := sgL q (.slice A1 q.xs.length c1)) (fun a w9 O9 H => nt ?_) size_sg27
  have hb9 : Below w5.heap.size w5 w9 := hg10 ▸ O9.bel
  have J9 := (J4.next hb5).next hb9
  have P9 := (O4.call hb5).call hb9
  clear O6 O7 O8 J4 J hL2 hr4 hrb
  replace H := H.keep (l' := [(0, .pointer (some ⟨g, 0, none⟩)), (5, .bool t), (13, .slice (some ⟨gl, ol, none⟩) l.length cL), (14, .int .i64 (l.length : Int)), (15, .int .i64 (k : Int)), (8, .pointer (some ⟨g8, 0, none⟩)), (9, .int .i64 (frOut b).2), (10, .pointer (some ⟨g10, 0, none⟩)), (11, .pointer (some ⟨g11, 0, none⟩)), (12, .bool zs)]) ⟨rfl, rfl, rfl, rfl, rfl, rfl, rfl, rfl, rfl, rfl, trivial⟩
  obtain ⟨c0, hc0⟩ : ∃ z, ((frOut b).2 == 0) = z := ⟨_, rfl⟩
  obtain ⟨c1z, hc1⟩ : ∃ z, (((frOut b).1.d : Int) == (mac : Int)) = z := ⟨_, rfl⟩
  obtain ⟨c2, hc2⟩ : ∃ z, (p.s == 167772161) = z := ⟨_, rfl⟩
  obtain ⟨c3, hc3⟩ : ∃ z, (p.d == (ip : Int)) = z := ⟨_, rfl⟩
  obtain ⟨c4, hc4⟩ : ∃ z, (q.sp == 1883) = z := ⟨_, rfl⟩
  obtain ⟨c5, hc5⟩ : ∃ z, (q.dp == (port : Int)) = z := ⟨_, rfl⟩
  cases hG : (((((c0 && zs) && c1z) && c2) && c3) && c4) && c5 with
  | false =>
    have hto : toldCli mac ip port b = none := by
      unfold toldCli
      cases zs with
      | false => rw [hz rfl]
      | true =>
        rw [(hsm rfl).1]
        show (if (((((((frOut b).2 == 0) && ((frOut b).1.d : Int) == (mac : Int)) && p.s == 167772161) && p.d == (ip : Int)) && q.sp == 1883) && q.dp == (port : Int)) = true then some q else none) = none
        rw [hc0, hc1, hc2, hc3, hc4, hc5, if_neg]
        intro h
        rw [Bool.and_true] at hG
        rw [hG] at h
        cases h
    refine H.dq (fun w' => Own w5 g10 [(g11, sgL q (.slice A1 q.xs.length c1)), (g10, pkL p (.slice A0 n0 c0'))] w' ∧ Own w3 g8 [(g8, [.int .i64 ((frOut b).1.d : Int), .int .i64 ((frOut b).1.s : Int), .int .i64 ((frOut b).1.t : Int), .slice A2 (frOut b).1.xs.length c2'])] w' ∧ ChJ W B g ip mac port iss next x0 last vl l w vG0 k t x vG w' ∧ True) (fun _ _ h hb => ⟨h.1.call hb, h.2.1.call hb, h.2.2.1.next hb, trivial⟩) ⟨O9, P9, J9, trivial⟩ [0, 5, 13, 14, 15, 8, 9, 10, 11, 12] rfl
      [ec 0 30 (.int .i64 (frOut b).2), ec 1 31 (.bool c0), ec 2 32 (.bool c0), ec 3 33 (gv c0 (.bool zs)), ec 4 34 (.bool (c0 && zs)), ec 5 35 (.bool (c0 && zs)), ec 6 36 (gv (c0 && zs) (.pointer (some ⟨g8, 0, none⟩))), ec 7 37 (gv (c0 && zs) (.int .i64 ((frOut b).1.d : Int))), ec 8 38 (gv (c0 && zs) (.pointer (some ⟨g, 0, none⟩))), ec 9 39 (gv (c0 && zs) (.pointer (some ⟨g, 0, none⟩))), ec 10 40 (gv (c0 && zs) (.pointer (some ⟨g, 1, none⟩))), ec 11 41 (gv (c0 && zs) (.int .i64 (mac : Int))), ec 12 42 (gv (c0 && zs) (.bool c1z)), ec 13 43 (.bool ((c0 && zs) && c1z)), ec 14 44 (.bool ((c0 && zs) && c1z)), ec 15 45 (gv ((c0 && zs) && c1z) (.pointer (some ⟨g10, 0, none⟩))), ec 16 46 (gv ((c0 && zs) && c1z) (.int .i64 p.s)), ec 17 47 (gv ((c0 && zs) && c1z) (.bool c2)), ec 18 48 (.bool (((c0 && zs) && c1z) && c2)), ec 19 49 (.bool (((c0 && zs) && c1z) && c2)), ec 20 50 (gv (((c0 && zs) && c1z) && c2) (.pointer (some ⟨g10, 1, none⟩))), ec 21 51 (gv (((c0 && zs) && c1z) && c2) (.int .i64 p.d)), ec 22 52 (gv (((c0 && zs) && c1z) && c2) (.pointer (some ⟨g, 0, none⟩))), ec 23 53 (gv (((c0 && zs) && c1z) && c2) (.pointer (some ⟨g, 0, none⟩))), ec 24 54 (gv (((c0 && zs) && c1z) && c2) (.pointer (some ⟨g, 0, none⟩))), ec 25 55 (gv (((c0 && zs) && c1z) && c2) (.int .i64 (ip : Int))), ec 26 56 (gv (((c0 && zs) && c1z) && c2) (.bool c3)), ec 27 57 (.bool ((((c0 && zs) && c1z) && c2) && c3)), ec 28 58 (.bool ((((c0 && zs) && c1z) && c2) && c3)), ec 29 59 (gv ((((c0 && zs) && c1z) && c2) && c3) (.pointer (some ⟨g11, 0, none⟩))), ec 30 60 (gv ((((c0 && zs) && c1z) && c2) && c3) (.int .i64 q.sp)), ec 31 61 (gv ((((c0 && zs) && c1z) && c2) && c3) (.bool c4)), ec 32 62 (.bool (((((c0 && zs) && c1z) && c2) && c3) && c4)), ec 33 63 (.bool (((((c0 && zs) && c1z) && c2) && c3) && c4)), ec 34 64 (gv (((((c0 && zs) && c1z) && c2) && c3) && c4) (.pointer (some ⟨g11, 1, none⟩))), ec 35 65 (gv (((((c0 && zs) && c1z) && c2) && c3) && c4) (.int .i64 q.dp)), ec 36 66 (gv (((((c0 && zs) && c1z) && c2) && c3) && c4) (.pointer (some ⟨g, 0, none⟩))), ec 37 67 (gv (((((c0 && zs) && c1z) && c2) && c3) && c4) (.pointer (some ⟨g, 0, none⟩))), ec 38 68 (gv (((((c0 && zs) && c1z) && c2) && c3) && c4) (.pointer (some ⟨g, 2, none⟩))), ec 39 69 (gv (((((c0 && zs) && c1z) && c2) && c3) && c4) (.int .i64 (port : Int))), ec 40 70 (gv (((((c0 && zs) && c1z) && c2) && c3) && c4) (.bool c5)), ec 41 71 (.bool ((((((c0 && zs) && c1z) && c2) && c3) && c4) && c5)), ec 42 72 (.bool ((((((c0 && zs) && c1z) && c2) && c3) && c4) && c5)), ec 43 73 (gv ((((((c0 && zs) && c1z) && c2) && c3) && c4) && c5) (.pointer (some ⟨g, 0, none⟩))), ec 44 74 (gv ((((((c0 && zs) && c1z) && c2) && c3) && c4) && c5) ((.agg (sgL q (.slice A1 q.xs.length c1)).toArray))), ec 45 75 (gv ((((((c0 && zs) && c1z) && c2) && c3) && c4) && c5) undef), ec 46 76 (.bool ((((((c0 && zs) && c1z) && c2) && c3) && c4) && c5))] rfl
      ⟨jm, jb fun _ => eql_k (frOut b).2 0 c0 hc0 _ _ _, jm, (by cases c0; exact jo; exact jm), (by (cases c0 <;> exact jp)), jm, (by cases c0; exact jo; cases zs; exact jo; exact jm), (by cases c0; exact jo; cases zs; exact jo; exact jl fun _ h => load1_i _ _ _ _ ((Own.get h.2.1 0 rfl).get 0 _ rfl)), (by cases c0; exact jo; cases zs; exact jo; exact jm), (by cases c0; exact jo; cases zs; exact jo; exact jm), (by cases c0; exact jo; cases zs; exact jo; exact jm), (by cases c0; exact jo; cases zs; exact jo; exact jl fun _ h => load1_i _ _ _ _ ((h.2.2.1.O.get 0 rfl).get 1 _ rfl)), (by cases c0; exact jo; cases zs; exact jo; exact jb fun _ => eql_iB ((frOut b).1.d : Int) (mac : Int) c1z hc1 _ _ _), (by cases c0; exact jp; (cases zs <;> exact jp)), jm, (by cases c0; exact jo; cases zs; exact jo; cases c1z; exact jo; exact jm), (by cases c0; exact jo; cases zs; exact jo; cases c1z; exact jo; exact jl fun _ h => load1_i _ _ _ _ ((Own.get h.1 1 rfl).get 0 _ rfl)), (by cases c0; exact jo; cases zs; exact jo; cases c1z; exact jo; exact jb fun _ => eql_iB p.s 167772161 c2 hc2 _ _ _), (by cases c0; exact jp; cases zs; exact jp; (cases c1z <;> exact jp)), jm, (by cases c0; exact jo; cases zs; exact jo; cases c1z; exact jo; cases c2; exact jo; exact jm), (by cases c0; exact jo; cases zs; exact jo; cases c1z; exact jo; cases c2; exact jo; exact jl fun _ h => load1_i _ _ _ _ ((Own.get h.1 1 rfl).get 1 _ rfl)), (by cases c0; exact jo; cases zs; exact jo; cases c1z; exact jo; cases c2; exact jo; exact jm), (by cases c0; exact jo; cases zs; exact jo; cases c1z; exact jo; cases c2; exact jo; exact jm), (by cases c0; exact jo; cases zs; exact jo; cases c1z; exact jo; cases c2; exact jo; exact jm), (by cases c0; exact jo; cases zs; exact jo; cases c1z; exact jo; cases c2; exact jo; exact jl fun _ h => load1_i _ _ _ _ ((h.2.2.1.O.get 0 rfl).get 0 _ rfl)), (by cases c0; exact jo; cases zs; exact jo; cases c1z; exact jo; cases c2; exact jo; exact jb fun _ => eql_iB p.d (ip : Int) c3 hc3 _ _ _), (by cases c0; exact jp; cases zs; exact jp; cases c1z; exact jp; (cases c2 <;> exact jp)), jm, (by cases c0; exact jo; cases zs; exact jo; cases c1z; exact jo; cases c2; exact jo; cases c3; exact jo; exact jm), (by cases c0; exact jo; cases zs; exact jo; cases c1z; exact jo; cases c2; exact jo; cases c3; exact jo; exact jl fun _ h => load1_i _ _ _ _ ((Own.get h.1 0 rfl).get 0 _ rfl)), (by cases c0; exact jo; cases zs; exact jo; cases c1z; exact jo; cases c2; exact jo; cases c3; exact jo; exact jb fun _ => eql_iB q.sp 1883 c4 hc4 _ _ _), (by cases c0; exact jp; cases zs; exact jp; cases c1z; exact jp; cases c2; exact jp; (cases c3 <;> exact jp)), jm, (by cases c0; exact jo; cases zs; exact jo; cases c1z; exact jo; cases c2; exact jo; cases c3; exact jo; cases c4; exact jo; exact jm), (by cases c0; exact jo; cases zs; exact jo; cases c1z; exact jo; cases c2; exact jo; cases c3; exact jo; cases c4; exact jo; exact jl fun _ h => load1_i _ _ _ _ ((Own.get h.1 0 rfl).get 1 _ rfl)), (by cases c0; exact jo; cases zs; exact jo; cases c1z; exact jo; cases c2; exact jo; cases c3; exact jo; cases c4; exact jo; exact jm), (by cases c0; exact jo; cases zs; exact jo; cases c1z; exact jo; cases c2; exact jo; cases c3; exact jo; cases c4; exact jo; exact jm), (by cases c0; exact jo; cases zs; exact jo; cases c1z; exact jo; cases c2; exact jo; cases c3; exact jo; cases c4; exact jo; exact jm), (by cases c0; exact jo; cases zs; exact jo; cases c1z; exact jo; cases c2; exact jo; cases c3; exact jo; cases c4; exact jo; exact jl fun _ h => load1_i _ _ _ _ ((h.2.2.1.O.get 0 rfl).get 2 _ rfl)), (by cases c0; exact jo; cases zs; exact jo; cases c1z; exact jo; cases c2; exact jo; cases c3; exact jo; cases c4; exact jo; exact jb fun _ => eql_iB q.dp (port : Int) c5 hc5 _ _ _), (by cases c0; exact jp; cases zs; exact jp; cases c1z; exact jp; cases c2; exact jp; cases c3; exact jp; (cases c4 <;> exact jp)), jm, (by cases c0; exact jo; cases zs; exact jo; cases c1z; exact jo; cases c2; exact jo; cases c3; exact jo; cases c4; exact jo; cases c5; exact jo; exact jm), (by cases c0; exact jo; cases zs; exact jo; cases c1z; exact jo; cases c2; exact jo; cases c3; exact jo; cases c4; exact jo; cases c5; exact jo; exact jl fun _ h => loadT (h.1.get 0 rfl) Tryz.underlying36 rfl size_sg27 rfl), (by cases c0; exact jo; cases zs; exact jo; cases c1z; exact jo; cases c2; exact jo; cases c3; exact jo; cases c4; exact jo; cases c5; exact jo; exact absurd hG (by decide)), (by cases c0; exact jp; cases zs; exact jp; cases c1z; exact jp; cases c2; exact jp; cases c3; exact jp; cases c4; exact jp; cases c5; exact jp; exact absurd hG (by decide)), trivial⟩ trivial ?_
    intro a w10 H _ ⟨_, _, J10, _⟩
    refine then_normal (H.cond (t := (((((c0 && zs) && c1z) && c2) && c3) && c4) && c5) rfl ?_)
    rw [hG]
    refine skip_wp (block_normal (then_normal ?_))
    refine H.rg 0 fun a H => ?_
    refine H.bn 1 (succ_i k (by omega) _ _ _) fun a H => nt ?_
    exact ⟨hlt, t, x, vG, H.keep ⟨rfl, rfl, rfl, rfl, rfl, trivial⟩, ⟨by rw [J10.h, hdr, clHears, hto], J10.wn, Nat.le_trans J10.gl (by omega), J10.O, J10.R, J10.K, J10.V⟩⟩
  | true =>
    simp only [Bool.and_eq_true] at hG
    obtain ⟨⟨⟨⟨⟨⟨e0, ez⟩, e1⟩, e2⟩, e3⟩, e4⟩, e5⟩ := hG
    subst e0 ez e1 e2 e3 e4 e5
    obtain ⟨hs, hrow⟩ := hsm rfl
    obtain ⟨hsq, hsl, hql⟩ := segIn_ok hs
    have hto : toldCli mac ip port b = some q := by
      unfold toldCli
      rw [hs]
      show (if (((((((frOut b).2 == 0) && ((frOut b).1.d : Int) == (mac : Int)) && p.s == 167772161) && p.d == (ip : Int)) && q.sp == 1883) && q.dp == (port : Int)) = true then some q else none) = some q
      rw [hc0, hc1, hc2, hc3, hc4, hc5]
      rfl
    have hd9 := (rb_of_own rfl hrow hb5.size).next hb9
    refine H.sg (fun w' => Own w5 g10 [(g11, sgL q (.slice A1 q.xs.length c1)), (g10, pkL p (.slice A0 n0 c0'))] w' ∧ Own w3 g8 [(g8, [.int .i64 ((frOut b).1.d : Int), .int .i64 ((frOut b).1.s : Int), .int .i64 ((frOut b).1.t : Int), .slice A2 (frOut b).1.xs.length c2'])] w' ∧ ChJ W B g ip mac port iss next x0 last vl l w vG0 k t x vG w' ∧ RB w' w'.heap.size A1 q.xs) ⟨O9.drew, P9.drew, J9.next (Below.drew (Below.refl _ _)), hd9.next (Below.drew (Below.refl _ _))⟩ [0, 5, 13, 14, 15, 8, 9, 10, 11, 12]
      [ec 0 30 (.int .i64 (frOut b).2), ec 1 31 (.bool true), ec 2 32 (.bool true), ec 3 33 (.bool true), ec 4 34 (.bool true), ec 5 35 (.bool true), ec 6 36 (.pointer (some ⟨g8, 0, none⟩)), ec 7 37 (.int .i64 ((frOut b).1.d : Int)), ec 8 38 (.pointer (some ⟨g, 0, none⟩)), ec 9 39 (.pointer (some ⟨g, 0, none⟩)), ec 10 40 (.pointer (some ⟨g, 1, none⟩)), ec 11 41 (.int .i64 (mac : Int)), ec 12 42 (.bool true), ec 13 43 (.bool true), ec 14 44 (.bool true), ec 15 45 (.pointer (some ⟨g10, 0, none⟩)), ec 16 46 (.int .i64 p.s), ec 17 47 (.bool true), ec 18 48 (.bool true), ec 19 49 (.bool true), ec 20 50 (.pointer (some ⟨g10, 1, none⟩)), ec 21 51 (.int .i64 p.d), ec 22 52 (.pointer (some ⟨g, 0, none⟩)), ec 23 53 (.pointer (some ⟨g, 0, none⟩)), ec 24 54 (.pointer (some ⟨g, 0, none⟩)), ec 25 55 (.int .i64 (ip : Int)), ec 26 56 (.bool true), ec 27 57 (.bool true), ec 28 58 (.bool true), ec 29 59 (.pointer (some ⟨g11, 0, none⟩)), ec 30 60 (.int .i64 q.sp), ec 31 61 (.bool true), ec 32 62 (.bool true), ec 33 63 (.bool true), ec 34 64 (.pointer (some ⟨g11, 1, none⟩)), ec 35 65 (.int .i64 q.dp), ec 36 66 (.pointer (some ⟨g, 0, none⟩)), ec 37 67 (.pointer (some ⟨g, 0, none⟩)), ec 38 68 (.pointer (some ⟨g, 2, none⟩)), ec 39 69 (.int .i64 (port : Int)), ec 40 70 (.bool true), ec 41 71 (.bool true), ec 42 72 (.bool true), ec 43 73 (.pointer (some ⟨g, 0, none⟩)), ec 44 74 ((.agg (sgL q (.slice A1 q.xs.length c1)).toArray))] rfl ?_
    have hw5 := J9.wn
    have hg5 := J9.gl
    have KK : ∀ wy, (Own w5 g10 [(g11, sgL q (.slice A1 q.xs.length c1)), (g10, pkL p (.slice A0 n0 c0'))] wy ∧ Own w3 g8 [(g8, [.int .i64 ((frOut b).1.d : Int), .int .i64 ((frOut b).1.s : Int), .int .i64 ((frOut b).1.t : Int), .slice A2 (frOut b).1.xs.length c2'])] wy ∧ ChJ W B g ip mac port iss next x0 last vl l w vG0 k t x vG wy ∧ RB wy wy.heap.size A1 q.xs) → _ := fun wy h => cliHear W B g ip mac port iss next x last vG vl q q.sq.toNat hsq hsl A1 c1 wy h.2.2.1.O h.2.2.1.R h.2.2.2 (by omega) hw5 (by omega) (by omega)
    refine St.call 45 ⟨jm, jb fun _ => eql_k (frOut b).2 0 true hc0 _ _ _, jm, jm, jp, jm, jm, jl fun _ h => load1_i _ _ _ _ ((Own.get h.2.1 0 rfl).get 0 _ rfl), jm, jm, jm, jl fun _ h => load1_i _ _ _ _ ((h.2.2.1.O.get 0 rfl).get 1 _ rfl), jb fun _ => eql_iB ((frOut b).1.d : Int) (mac : Int) true hc1 _ _ _, jp, jm, jm, jl fun _ h => load1_i _ _ _ _ ((Own.get h.1 1 rfl).get 0 _ rfl), jb fun _ => eql_iB p.s 167772161 true hc2 _ _ _, jp, jm, jm, jl fun _ h => load1_i _ _ _ _ ((Own.get h.1 1 rfl).get 1 _ rfl), jm, jm, jm, jl fun _ h => load1_i _ _ _ _ ((h.2.2.1.O.get 0 rfl).get 0 _ rfl), jb fun _ => eql_iB p.d (ip : Int) true hc3 _ _ _, jp, jm, jm, jl fun _ h => load1_i _ _ _ _ ((Own.get h.1 0 rfl).get 0 _ rfl), jb fun _ => eql_iB q.sp 1883 true hc4 _ _ _, jp, jm, jm, jl fun _ h => load1_i _ _ _ _ ((Own.get h.1 0 rfl).get 1 _ rfl), jm, jm, jm, jl fun _ h => load1_i _ _ _ _ ((h.2.2.1.O.get 0 rfl).get 2 _ rfl), jb fun _ => eql_iB q.dp (port : Int) true hc5 _ _ _, jp, jm, jm, jl fun _ h => loadT (h.1.get 0 rfl) Tryz.underlying36 rfl size_sg27 rfl, trivial⟩ KK ?_
    rintro wx v wz hh ⟨x', tt, vG', hcl, rfl, Oz, Rz, Kz, Vz⟩
    have hok := clHear_ok (iss := iss) (q := q) hw5 hql
    rw [hcl] at hok
    refine nx (fun w' => ChJ W B g ip mac port iss next x0 last vl l w vG0 (k + 1) (t || tt) x' vG' w') [ec 46 76 (.bool tt)] [] ⟨by rw [hh.2.2.1.h, hdr, clHears, hto]; show clHears mac ip port iss (clHear iss x q).1 (t || (clHear iss x q).2) _ = _; rw [hcl], hok.1, Nat.le_trans hok.2 (by omega), Oz, Rz, hh.2.2.1.K.far hh.2.2.1.V Kz, hh.2.2.1.V.trans hh.2.2.1.K.1 Vz⟩ (St.fin ⟨jp, trivial⟩ ?_)
    rintro a w10 H _ J10
    refine then_normal ?_
    cases tt with
    | true =>
      refine H.condT rfl ?_
      refine H.rg 1 fun a H => wpList_nil (block_normal (then_normal ?_))
      refine H.rg 0 fun a H => ?_
      refine H.bn 1 (succ_i k (by omega) _ _ _) fun a H => nt ?_
      exact ⟨hlt, true, x', vG', H.keep ⟨rfl, rfl, rfl, rfl, rfl, trivial⟩, by rw [Bool.or_true] at J10; exact J10⟩
    | false =>
      refine H.condF rfl (skip_wp (block_normal (then_normal ?_)))
      refine H.rg 0 fun a H => ?_
      refine H.bn 1 (succ_i k (by omega) _ _ _) fun a H => nt ?_
      exact ⟨hlt, t, x', vG', H.keep ⟨rfl, rfl, rfl, rfl, rfl, trivial⟩, by rw [Bool.or_false] at J10; exact J10⟩
end Go.Proofs.YtlacidnnankjlaaGreatDoor

/-
  What the library's functions answer, laid at this dump in plain words (printed by the kit's lay-plain out of lay-shelf's text; numbers are this dump's).
-/
namespace Go.Proofs.YtlacidnnankjlaaGreatDoor
open Go.Shelf
def Sh.lays119_ren : Go.Shelf.Ren := ⟨fun | 119 => 182 | n => n, fun | 21 => 21 | 4 => 4 | n => n, fun | n => n⟩
theorem Sh.lays119 : Go.Proofs.Lays.n119 Tryz.prog Sh.lays119_ren := {
  mixed := by kernel_rfl
  f119 := Tryz.func182.trans (congrArg some (by kernel_rfl))
  t4 := Tryz.underlying4
  a4 := Tryz.isAgg4
  z4 := Tryz.sizeOf4
  v4 := Tryz.zeroValue4
  t21 := Tryz.underlying21
  a21 := Tryz.isAgg21
  z21 := Tryz.sizeOf21
  v21 := Tryz.zeroValue21 }
theorem Sh.utf8_ValidRune (r : Int) (w : World) :
    Calls Tryz.prog 182 #[.int .i32 r] w fun e w' => e = .returned (.bool (Lib.validRune r)) ∧ w' = w := Any.utf8_ValidRune Sh.lays119 r w
def Sh.lays137_ren : Go.Shelf.Ren := ⟨fun | 137 => 181 | 217 => 177 | 266 => 183 | n => n, fun | 9 => 9 | 5 => 5 | 3 => 3 | n => n, fun | n => n⟩
theorem Sh.lays137 : Go.Proofs.Lays.n137 Tryz.prog Sh.lays137_ren := {
  mixed := by kernel_rfl
  f137 := Tryz.func181.trans (congrArg some (by kernel_rfl))
  f217 := Tryz.func177.trans (congrArg some (by kernel_rfl))
  f266 := Tryz.func183.trans (congrArg some (by kernel_rfl))
  t3 := Tryz.underlying3
  a3 := Tryz.isAgg3
  z3 := Tryz.sizeOf3
  v3 := Tryz.zeroValue3
  t5 := Tryz.underlying5
  a5 := Tryz.isAgg5
  z5 := Tryz.sizeOf5
  v5 := Tryz.zeroValue5
  t9 := Tryz.underlying9
  a9 := Tryz.isAgg9
  z9 := Tryz.sizeOf9
  v9 := Tryz.zeroValue9 }
open Go.RowKit in
theorem Sh.strings_IndexByte (s : ByteArray) (c : Int) (w : World) :
    Calls Tryz.prog 181 #[.string s, .int .u8 c] w fun e w' => e = .returned (.int .i64 (Lib.indexByte s.data.toList c.toNat.toUInt8)) ∧ w' = w := Any.strings_IndexByte Sh.lays137 s c w
open Go.RowKit Go.Lib in
open Go.RowKit Go.Lib in
open Go.RowKit Go.Lib in
open Go.RowKit Go.Lib in
open Go.RowKit Go.Lib in
open Go.RowKit Go.Lib in
open Go.RowKit Go.Lib in
open Go.RowKit Go.Lib in
def Sh.lays144_ren : Go.Shelf.Ren := ⟨fun | 144 => 168 | 143 => 170 | 219 => 172 | 217 => 177 | 225 => 178 | 224 => 179 | 267 => 180 | 266 => 183 | 314 => 184 | n => n, fun | 9 => 9 | 4 => 4 | 3 => 3 | 5 => 5 | 46 => 125 | 146 => 223 | 51 => 33 | n => n, fun | 1 => 2 | n => n⟩
theorem Sh.lays144 : Go.Proofs.Lays.n144 Tryz.prog Sh.lays144_ren := {
  mixed := by kernel_rfl
  f143 := Tryz.func170.trans (congrArg some (by kernel_rfl))
  f144 := Tryz.func168.trans (congrArg some (by kernel_rfl))
  f217 := Tryz.func177.trans (congrArg some (by kernel_rfl))
  f219 := Tryz.func172.trans (congrArg some (by kernel_rfl))
  f224 := Tryz.func179.trans (congrArg some (by kernel_rfl))
  f225 := Tryz.func178.trans (congrArg some (by kernel_rfl))
  f266 := Tryz.func183.trans (congrArg some (by kernel_rfl))
  f267 := Tryz.func180.trans (congrArg some (by kernel_rfl))
  f314 := Tryz.func184.trans (congrArg some (by kernel_rfl))
  t3 := Tryz.underlying3
  a3 := Tryz.isAgg3
  z3 := Tryz.sizeOf3
  v3 := Tryz.zeroValue3
  t4 := Tryz.underlying4
  a4 := Tryz.isAgg4
  z4 := Tryz.sizeOf4
  v4 := Tryz.zeroValue4
  t5 := Tryz.underlying5
  a5 := Tryz.isAgg5
  z5 := Tryz.sizeOf5
  v5 := Tryz.zeroValue5
  t9 := Tryz.underlying9
  a9 := Tryz.isAgg9
  z9 := Tryz.sizeOf9
  v9 := Tryz.zeroValue9
  t46 := Tryz.underlying125
  a46 := Tryz.isAgg125
  z46 := Tryz.sizeOf125
  v46 := Tryz.zeroValue125
  t51 := Tryz.underlying33
  a51 := Tryz.isAgg33
  z51 := Tryz.sizeOf33
  v51 := Tryz.zeroValue33
  t146 := Tryz.underlying223
  a146 := Tryz.isAgg223
  z146 := Tryz.sizeOf223
  v146 := Tryz.zeroValue223
  g1 := by kernel_rfl }
open Go.RowKit Go.Lib in
theorem Sh.strings_Contains_one (s : ByteArray) (c : UInt8) (w : World) :
    Calls Tryz.prog 168 #[.string s, .string ⟨#[c]⟩] w fun e w' => e = .returned (.bool (decide (0 ≤ Lib.indexByte s.data.toList c))) ∧ w' = w := Any.strings_Contains_one Sh.lays144 s c w
open Go.RowKit Go.Lib in
open Go.RowKit Go.Lib in
open Go.RowKit Go.Lib in
open Go.RowKit Go.Lib in
def Sh.lays152_ren : Go.Shelf.Ren := ⟨fun | 152 => 173 | 137 => 181 | 119 => 182 | 224 => 179 | 225 => 178 | 217 => 177 | 266 => 183 | n => n, fun | 9 => 9 | 21 => 21 | 3 => 3 | 4 => 4 | 5 => 5 | 0 => 0 | 46 => 125 | n => n, fun | n => n⟩
theorem Sh.lays152 : Go.Proofs.Lays.n152 Tryz.prog Sh.lays152_ren := {
  mixed := by kernel_rfl
  f119 := Tryz.func182.trans (congrArg some (by kernel_rfl))
  f137 := Tryz.func181.trans (congrArg some (by kernel_rfl))
  f152 := Tryz.func173.trans (congrArg some (by kernel_rfl))
  f217 := Tryz.func177.trans (congrArg some (by kernel_rfl))
  f224 := Tryz.func179.trans (congrArg some (by kernel_rfl))
  f225 := Tryz.func178.trans (congrArg some (by kernel_rfl))
  f266 := Tryz.func183.trans (congrArg some (by kernel_rfl))
  t0 := Tryz.underlying0
  a0 := Tryz.isAgg0
  z0 := Tryz.sizeOf0
  v0 := Tryz.zeroValue0
  t3 := Tryz.underlying3
  a3 := Tryz.isAgg3
  z3 := Tryz.sizeOf3
  v3 := Tryz.zeroValue3
  t4 := Tryz.underlying4
  a4 := Tryz.isAgg4
  z4 := Tryz.sizeOf4
  v4 := Tryz.zeroValue4
  t5 := Tryz.underlying5
  a5 := Tryz.isAgg5
  z5 := Tryz.sizeOf5
  v5 := Tryz.zeroValue5
  t9 := Tryz.underlying9
  a9 := Tryz.isAgg9
  z9 := Tryz.sizeOf9
  v9 := Tryz.zeroValue9
  t21 := Tryz.underlying21
  a21 := Tryz.isAgg21
  z21 := Tryz.sizeOf21
  v21 := Tryz.zeroValue21
  t46 := Tryz.underlying125
  a46 := Tryz.isAgg125
  z46 := Tryz.sizeOf125
  v46 := Tryz.zeroValue125 }
open Go.RowKit Go.Lib in
theorem Sh.strings_IndexRune_ascii (s : ByteArray) (r : Int) (w : World) (h0 : 0 ≤ r) (h1 : r < 128) :
    Calls Tryz.prog 173 #[.string s, .int .i32 r] w fun e w' => e = .returned (.int .i64 (Lib.indexByte s.data.toList r.toNat.toUInt8)) ∧ w' = w := Any.strings_IndexRune_ascii Sh.lays152 s r w h0 h1
def Sh.lays226_ren : Go.Shelf.Ren := ⟨fun | 226 => 174 | n => n, fun | 3 => 3 | 4 => 4 | n => n, fun | n => n⟩
theorem Sh.lays226 : Go.Proofs.Lays.n226 Tryz.prog Sh.lays226_ren := {
  mixed := by kernel_rfl
  f226 := Tryz.func174.trans (congrArg some (by kernel_rfl))
  t3 := Tryz.underlying3
  a3 := Tryz.isAgg3
  z3 := Tryz.sizeOf3
  v3 := Tryz.zeroValue3
  t4 := Tryz.underlying4
  a4 := Tryz.isAgg4
  z4 := Tryz.sizeOf4
  v4 := Tryz.zeroValue4 }
open Go.RowKit Go.Lib in
theorem Sh.strings_shouldUseASCIISet (n : Int) (w : World) :
    Calls Tryz.prog 174 #[.int .i64 n] w fun e w' => e = .returned (.bool (decide (8 < n))) ∧ w' = w := Any.strings_shouldUseASCIISet Sh.lays226 n w
def Sh.lays153_ren : Go.Shelf.Ren := ⟨fun | 153 => 171 | 152 => 173 | 226 => 174 | 227 => 175 | 228 => 176 | 137 => 181 | 119 => 182 | 224 => 179 | 225 => 178 | 217 => 177 | 266 => 183 | n => n, fun | 9 => 9 | 3 => 3 | 4 => 4 | 5 => 5 | 21 => 21 | 117 => 216 | 116 => 215 | 0 => 0 | 46 => 125 | 124 => 222 | n => n, fun | n => n⟩
theorem Sh.lays153 : Go.Proofs.Lays.n153 Tryz.prog Sh.lays153_ren := {
  mixed := by kernel_rfl
  f119 := Tryz.func182.trans (congrArg some (by kernel_rfl))
  f137 := Tryz.func181.trans (congrArg some (by kernel_rfl))
  f152 := Tryz.func173.trans (congrArg some (by kernel_rfl))
  f153 := Tryz.func171.trans (congrArg some (by kernel_rfl))
  f217 := Tryz.func177.trans (congrArg some (by kernel_rfl))
  f224 := Tryz.func179.trans (congrArg some (by kernel_rfl))
  f225 := Tryz.func178.trans (congrArg some (by kernel_rfl))
  f226 := Tryz.func174.trans (congrArg some (by kernel_rfl))
  f227 := Tryz.func175.trans (congrArg some (by kernel_rfl))
  f228 := Tryz.func176.trans (congrArg some (by kernel_rfl))
  f266 := Tryz.func183.trans (congrArg some (by kernel_rfl))
  t0 := Tryz.underlying0
  a0 := Tryz.isAgg0
  z0 := Tryz.sizeOf0
  v0 := Tryz.zeroValue0
  t3 := Tryz.underlying3
  a3 := Tryz.isAgg3
  z3 := Tryz.sizeOf3
  v3 := Tryz.zeroValue3
  t4 := Tryz.underlying4
  a4 := Tryz.isAgg4
  z4 := Tryz.sizeOf4
  v4 := Tryz.zeroValue4
  t5 := Tryz.underlying5
  a5 := Tryz.isAgg5
  z5 := Tryz.sizeOf5
  v5 := Tryz.zeroValue5
  t9 := Tryz.underlying9
  a9 := Tryz.isAgg9
  z9 := Tryz.sizeOf9
  v9 := Tryz.zeroValue9
  t21 := Tryz.underlying21
  a21 := Tryz.isAgg21
  z21 := Tryz.sizeOf21
  v21 := Tryz.zeroValue21
  t46 := Tryz.underlying125
  a46 := Tryz.isAgg125
  z46 := Tryz.sizeOf125
  v46 := Tryz.zeroValue125
  t116 := Tryz.underlying215
  a116 := Tryz.isAgg215
  z116 := Tryz.sizeOf215
  t117 := Tryz.underlying216
  a117 := Tryz.isAgg216
  z117 := Tryz.sizeOf216
  v117 := Tryz.zeroValue216
  t124 := Tryz.underlying222
  a124 := Tryz.isAgg222
  z124 := Tryz.sizeOf222
  v124 := Tryz.zeroValue222 }
open Go.RowKit Go.Lib in
open Go.RowKit Go.Lib in
open Go.RowKit Go.Lib in
open Go.RowKit Go.Lib in
open Go.RowKit Go.Lib in
open Go.RowKit Go.Lib in
theorem Sh.strings_IndexAny_long (hv116 : ∀ w, (zeroValue 215).run Tryz.prog w = .ok (.agg (Array.replicate 256 (.bool false))) w) (s chars : ByteArray) (w : World) (h2 : 2 ≤ chars.size) (h8 : 8 < s.size) (hs : s.size < 4294967281) (hcs : chars.size < 4294967281) (hascii : ∀ (j : Nat) b, chars.data.toList[j]? = some b → b.toNat < 128) :
    Calls Tryz.prog 171 #[.string s, .string chars] w fun e w' => e = .returned (.int .i64 (Lib.indexAny s.data.toList chars.data.toList)) ∧ w' = ((w.alloc (.cells (Lib.setCells chars.data.toList) 215)).alloc (.cells (Lib.setCells chars.data.toList) 215)) := Any.strings_IndexAny_long Sh.lays153 hv116 (by kernel_rfl) s chars w h2 h8 hs hcs hascii
open Go.RowKit Go.Lib in
open Go.RowKit Go.Lib in
open Go.RowKit Go.Lib in
open Go.RowKit Go.Lib in
def Sh.lays196_ren : Go.Shelf.Ren := ⟨fun | 196 => 105 | 259 => 130 | n => n, fun | 9 => 9 | 4 => 4 | 3 => 3 | 5 => 5 | 12 => 12 | 119 => 186 | 0 => 0 | 46 => 125 | 139 => 189 | 138 => 188 | 53 => 206 | n => n, fun | 3 => 0 | 4 => 1 | n => n⟩
theorem Sh.lays196 : Go.Proofs.Lays.n196 Tryz.prog Sh.lays196_ren := {
  mixed := by kernel_rfl
  f196 := Tryz.func105.trans (congrArg some (by kernel_rfl))
  f259 := Tryz.func130.trans (congrArg some (by kernel_rfl))
  t0 := Tryz.underlying0
  a0 := Tryz.isAgg0
  z0 := Tryz.sizeOf0
  v0 := Tryz.zeroValue0
  t3 := Tryz.underlying3
  a3 := Tryz.isAgg3
  z3 := Tryz.sizeOf3
  v3 := Tryz.zeroValue3
  t4 := Tryz.underlying4
  a4 := Tryz.isAgg4
  z4 := Tryz.sizeOf4
  v4 := Tryz.zeroValue4
  t5 := Tryz.underlying5
  a5 := Tryz.isAgg5
  z5 := Tryz.sizeOf5
  v5 := Tryz.zeroValue5
  t9 := Tryz.underlying9
  a9 := Tryz.isAgg9
  z9 := Tryz.sizeOf9
  v9 := Tryz.zeroValue9
  t12 := Tryz.underlying12
  a12 := Tryz.isAgg12
  z12 := Tryz.sizeOf12
  v12 := Tryz.zeroValue12
  t46 := Tryz.underlying125
  a46 := Tryz.isAgg125
  z46 := Tryz.sizeOf125
  v46 := Tryz.zeroValue125
  t53 := Tryz.underlying206
  a53 := Tryz.isAgg206
  z53 := Tryz.sizeOf206
  v53 := Tryz.zeroValue206
  t119 := Tryz.underlying186
  a119 := Tryz.isAgg186
  z119 := Tryz.sizeOf186
  t138 := Tryz.underlying188
  a138 := Tryz.isAgg188
  z138 := Tryz.sizeOf188
  v138 := Tryz.zeroValue188
  t139 := Tryz.underlying189
  a139 := Tryz.isAgg189
  z139 := Tryz.sizeOf189
  v139 := Tryz.zeroValue189
  g3 := by kernel_rfl
  g4 := by kernel_rfl }
open Go.RowKit Go.Lib in
theorem Sh.utf8_ValidString (s : ByteArray) (w : World) (hs : s.size ≤ 9223372036854775807) (hT : Lib.Utf8Tabs (Sh.lays196_ren.g 3) (Sh.lays196_ren.g 4) w) :
    Calls Tryz.prog 105 #[.string s] w fun e w' => e = .returned (.bool (Lib.validD s.data.toList)) ∧ Below w.heap.size w w' := Any.utf8_ValidString Sh.lays196 s w hs hT
end Go.Proofs.YtlacidnnankjlaaGreatDoor

/-
  The walks of chapter 18's smallest functions: within, id, Num, bit, two, text (both), num.
-/
namespace Go.Proofs.YtlacidnnankjlaaGreatDoor
open Go.RowKit

/-- a string's bytes. -/
abbrev sb (s : ByteArray) : List UInt8 := s.data.toList
theorem sb_length (s : ByteArray) : (sb s).length = s.size := by simp [sb]
theorem strCells_bv (s : ByteArray) : Lib.strCells s = (sb s).map bv := rfl

/-- append(v, s...) of a string, at the list of a plain region. -/
theorem wpList_append_str {P : Program} {w0 w : World} {ops : Array Oper} {rest : List Oper} {o : Oper} {a : Act} {Q : Exit → Act → World → Prop} (B : Nat) (hb : Below B w0 w) (hgd : o.guard = none) (s x : Operand) (t u : TypeId)
    (ho : o.op = .call { callee := .builtin .append, args := #[s, x], argTypes := #[t, u] })
    (base : Nat) (e : TypeId) (ht : P.underlying t = some (.slice e)) (hu : P.underlying u = some .string) (hi : (P.info? e).map (fun i => (i.zero, i.size, i.bytes)) = some (some (.int .u8 0), 1, 1))
    (v : Value) (n : Nat) (xs : List UInt8) (hs : a.eval s = v) (hown : w.ownsRow base e 1 v n (xs.map bv)) (str : ByteArray) (hx : a.eval x = .string str)
    (hn : n + str.size ≤ 140737488355328) (hbase : base ≤ w.heap.size) (hB : B ≤ base)
    (h : ∀ A' c' w', w'.ownsRow base e 1 (.slice A' (n + str.size) c') (n + str.size) ((xs ++ sb str).map bv) → Below B w0 w' → wpList P ops Q rest (a.put o.dst (.slice A' (n + str.size) c')) w') :
    wpList P ops Q (o :: rest) a w := by
  obtain ⟨i0, hi0, hz0, hz1, hz2⟩ := info_parts hi
  refine Lib.wpList_append_own_string _ hgd s x t u ho base e i0 ht hu hi0 hz0 hz1 hz2 v n _ hs hown str hx (by unfold maxLen; omega) hn hbase ?_
  intro v' w' hown' hg _
  obtain ⟨A, c, rfl, _, _⟩ := own_shape hown'
  refine h A c w' (by rw [List.map_append, ← strCells_bv]; exact hown') (hb.grown hg (Nat.le_trans hB hbase) ?_)
  intro k hk
  exact Nat.le_trans hB (hown.lt k hk).1

def inRB (n l m : Int) : Bool := decide (l ≤ n) && decide (n ≤ m)
theorem inRB_iff {n l m : Int} : inRB n l m = true ↔ l ≤ n ∧ n ≤ m := by simp [inRB]
set_option maxRecDepth 100000 in
theorem packWithin (n l m : Int) (w : World) : Calls Tryz.prog 151 #[.int .i64 n, .int .i64 l, .int .i64 m] w fun e w' => e = .returned (.bool (inRB n l m)) ∧ w = w' := by
  by_cases h1 : l ≤ n
  · by_cases h2 : n ≤ m
    · have H := Lib.hid (inRB_iff.2 ⟨h1, h2⟩ : inRB n l m = true)
      go_enter Tryz.func151, Tryz.ntmps151
      go_wp2
      go_ret
      exact ⟨by rw [H.out]; rfl, rfl⟩
    · have H := Lib.hid (Bool.eq_false_iff.2 fun h => h2 (inRB_iff.1 h).2 : inRB n l m = false)
      go_enter Tryz.func151, Tryz.ntmps151
      go_wp2
      go_ret
      exact ⟨by rw [H.out]; rfl, rfl⟩
  · have H := Lib.hid (Bool.eq_false_iff.2 fun h => h1 (inRB_iff.1 h).1 : inRB n l m = false)
    go_enter Tryz.func151, Tryz.ntmps151
    go_wp2
    go_ret
    exact ⟨by rw [H.out]; rfl, rfl⟩
set_option maxRecDepth 100000 in
theorem packBit (b : Bool) (n : Int) (w : World) : Calls Tryz.prog 161 #[.bool b, .int .i64 n] w fun e w' => e = .returned (.int .i64 (if b then n else 0)) ∧ w = w' := by
  cases b
  all_goals
    go_enter Tryz.func161, Tryz.ntmps161
    go_wp2
    go_ret
    exact ⟨rfl, rfl⟩
theorem litTwo (v : Nat) (hv : v ≤ 65535) : (#[Value.int .u8 ((v : Int) / 256), .int .u8 ((v : Int) % 256)] : Array Value).toList = (big 2 v).map bv := by
  have h1 := byte_hi v hv
  have h2 := byte_lo v
  simp only [big, List.map, bv, Nat.pow_one, Nat.pow_zero, Nat.div_one, h1, h2]

set_option maxRecDepth 100000 in
/-- two(b, v): the number's two bytes behind what is owned. -/
theorem packTwo (base : Nat) (xs : List UInt8) (m : Nat) (A : Option Addr) (c : Nat) (vI : Int) (v : Nat) (hve : vI = (v : Int)) (hv : v ≤ 65535) (w : World)
    (hown : w.ownsRow base 5 1 (.slice A m c) m (xs.map bv)) (hbase : base ≤ w.heap.size) (hn : m ≤ 140737488351232) :
    Calls Tryz.prog 163 #[.slice A m c, .int .i64 vI] w fun e w' => ∃ A' c', e = .returned (.slice A' (m + 2) c') ∧ w'.ownsRow base 5 1 (.slice A' (m + 2) c') (m + 2) ((xs ++ big 2 v).map bv) ∧ Below base w w' := by
  subst hve
  have HO := Lib.hid (own_below hown (balloc w (.cells #[.int .u8 ((v : Int) / 256), .int .u8 ((v : Int) % 256)] 5)))
  have HR := Lib.hid (RB.lit w 5 #[.int .u8 ((v : Int) / 256), .int .u8 ((v : Int) % 256)] (0, 0) (big 2 v) (litTwo v hv))
  have HB := Lib.hid ((Below.refl base w).alloc hbase (.cells #[.int .u8 ((v : Int) / 256), .int .u8 ((v : Int) % 256)] 5))
  have hvI : (v : Int) ≤ 65535 := by omega
  clear hown
  go_enter Tryz.func163, Tryz.ntmps163
  go_wp2_with (at_builtin; refine wpList_append_bytes base HB.out rfl _ _ 31 rfl base 5 Tryz.underlying31 info_u8 _ _ xs (by exact rfl) HO.out (some ⟨w.heap.size, 0, none⟩) 2 2 (big 2 v) rfl (by exact rfl) HR.out (by omega) (by simp; omega) (Nat.le_refl _) ?_; intro A' c' w' hown' hb')
  go_ret
  exact ⟨A', c', rfl, hown', hb'⟩

set_option maxRecDepth 100000 in
/-- text(b, s): the length's two bytes and the string's own behind what is owned. -/
theorem packText (base : Nat) (xs : List UInt8) (m : Nat) (A : Option Addr) (c : Nat) (s : ByteArray) (hs : s.size ≤ 65535) (w : World)
    (hown : w.ownsRow base 5 1 (.slice A m c) m (xs.map bv)) (hbase : base ≤ w.heap.size) (hn : m ≤ 140737488251232) :
    Calls Tryz.prog 162 #[.slice A m c, .string s] w fun e w' => ∃ A' c', e = .returned (.slice A' (m + 2 + s.size) c') ∧ w'.ownsRow base 5 1 (.slice A' (m + 2 + s.size) c') (m + 2 + s.size) ((xs ++ big 2 s.size ++ sb s).map bv) ∧ Below base w w' := by
  have K1 := Lib.hid (packTwo base xs m A c (s.size : Int) s.size rfl hs w hown hbase (by omega))
  clear hown
  go_enter Tryz.func162, Tryz.ntmps162
  go_wp2_with fail
  (with_reducible refine K1.out.mono ?_)
  rintro _ w1 ⟨A1, c1, rfl, ho1, hb1⟩
  have hs1 : base ≤ w1.heap.size := Nat.le_trans hbase hb1.size
  go_wp2_with (at_builtin; apply wpList_append_str base hb1 rfl _ _ 31 9 rfl base 5 Tryz.underlying31 Tryz.underlying9 info_u8 _ _ _ ?_ ho1 s ?_ ?_ hs1 (Nat.le_refl _) ?_; exact rfl; exact rfl; omega; intro A' c' w' hown' hb')
  go_ret
  exact ⟨A', c', rfl, hown', hb'⟩

end Go.Proofs.YtlacidnnankjlaaGreatDoor

/-
  The reference's text: two bytes of length, then the string, behind what is owned.
-/
namespace Go.Proofs.YtlacidnnankjlaaGreatDoor
open Go.RowKit

end Go.Proofs.YtlacidnnankjlaaGreatDoor

/-
  kioskref18.plain: no '+' and no '#' in a string (a loop over its bytes).
-/
namespace Go.Proofs.YtlacidnnankjlaaGreatDoor
open Go.RowKit

def plainOf : List UInt8 → Bool
  | [] => true
  | x :: xs => if x == 43 || x == 35 then false else plainOf xs

theorem sb_drop (s : ByteArray) (k : Nat) (h : k < s.size) : (sb s).drop k = s[k] :: (sb s).drop (k + 1) := by
  rw [List.drop_eq_getElem_cons (by rw [sb_length]; exact h)]
  rfl
theorem byte_eq (u v : UInt8) : ((u.toNat : Int) = (v.toNat : Int)) ↔ u = v := by
  constructor
  · intro h
    exact UInt8.toNat_inj.1 (by omega)
  · rintro rfl
    rfl

end Go.Proofs.YtlacidnnankjlaaGreatDoor

/-
  kioskref18.Text, given what utf8.ValidString answers at the string in this world.
-/
namespace Go.Proofs.YtlacidnnankjlaaGreatDoor
open Go.RowKit

def noZero : List UInt8 → Bool
  | [] => true
  | x :: xs => if x == 0 then false else noZero xs
/-- a text: its size between l and m, valid, no zero byte. -/
def textB (vb : Bool) (s : ByteArray) (l m : Int) : Bool := inRB s.size l m && (vb && noZero (sb s))

end Go.Proofs.YtlacidnnankjlaaGreatDoor

/-
  pack.Text and pack.topic, given what utf8.ValidString, strings.Contains and strings.ContainsAny answer in this world.
-/
namespace Go.Proofs.YtlacidnnankjlaaGreatDoor
open Go.RowKit

set_option maxRecDepth 100000 in
theorem packTextW (s : ByteArray) (_hs : s.size ≤ 140737488351232) (l m : Int) (vb : Bool) (w : World)
    (hv : Calls Tryz.prog 105 #[.string s] w fun e w' => e = .returned (.bool vb) ∧ Below w.heap.size w w')
    (hc : ∀ w1, Below w.heap.size w w1 → Calls Tryz.prog 168 #[.string s, .string { data := #[0] }] w1 fun e w' => e = .returned (.bool (!noZero (sb s))) ∧ Below w1.heap.size w1 w') :
    Calls Tryz.prog 165 #[.string s, .int .i64 l, .int .i64 m] w fun e w' => e = .returned (.bool (textB vb s l m)) ∧ Below w.heap.size w w' := by
  have HV := Lib.hid hv
  have HC := Lib.hid hc
  have HW := Lib.hid (packWithin (s.size : Int) l m w)
  clear hv hc
  cases hb : inRB s.size l m with
  | false =>
    rw [hb] at HW
    have HP := Lib.hid (show textB vb s l m = false by unfold textB; rw [hb]; rfl)
    go_enter Tryz.func165, Tryz.ntmps165
    go_wp2_with (go_at_call 151; (with_reducible refine HW.out.mono ?_); rintro _ w1 ⟨rfl, rfl⟩)
    go_ret
    exact ⟨by rw [HP.out]; rfl, Below.refl _ _⟩
  | true =>
    rw [hb] at HW
    have HI := Lib.hid (show textB vb s l m = (vb && noZero (sb s)) by unfold textB; rw [hb]; rfl)
    cases vb with
    | false =>
      go_enter Tryz.func165, Tryz.ntmps165
      go_wp2_with (first
        | (go_at_call 151; (with_reducible refine HW.out.mono ?_); rintro _ w1 ⟨rfl, rfl⟩)
        | (go_at_call 105; (with_reducible refine HV.out.mono ?_); rintro _ w2 ⟨rfl, hb2⟩; have HB2 := Lib.hid hb2; clear hb2))
      go_ret
      exact ⟨by rw [HI.out]; rfl, HB2.out⟩
    | true =>
      go_enter Tryz.func165, Tryz.ntmps165
      go_wp2_with (first
        | (go_at_call 151; (with_reducible refine HW.out.mono ?_); rintro _ w1 ⟨rfl, rfl⟩)
        | (go_at_call 105; (with_reducible refine HV.out.mono ?_); rintro _ w2 ⟨rfl, hb2⟩; have HB2 := Lib.hid hb2; clear hb2)
        | (go_at_call 168; (with_reducible refine (HC.out w2 HB2.out).mono ?_); rintro _ w3 ⟨rfl, hb3⟩; have HB3 := Lib.hid (HB2.out.trans (hb3.mono HB2.out.size)); clear hb3))
      go_ret
      exact ⟨by rw [HI.out]; simp, HB3.out⟩

end Go.Proofs.YtlacidnnankjlaaGreatDoor

/-
  Packets of chapter 18, without a program: which may be, what bytes they have.
-/
namespace Go.Proofs.YtlacidnnankjlaaGreatDoor
open Go.RowKit

structure Mq where
  kind : Int
  client : ByteArray
  clean : Bool
  keep : Int
  won : Bool
  wt : ByteArray
  wp : ByteArray
  wq : Int
  wr : Bool
  user : ByteArray
  hu : Bool
  pass : ByteArray
  hp : Bool
  present : Bool
  code : Int
  codes : List Int
  dup : Bool
  qos : Int
  retain : Bool
  topic : ByteArray
  id : Int
  payload : ByteArray
  wishes : List (ByteArray × Int)
  filters : List ByteArray

abbrev nos : ByteArray := ⟨#[]⟩
/-- the packet of a kind that has nothing else. -/
def mq0 (k : Int) : Mq := ⟨k, nos, false, 0, false, nos, nos, 0, false, nos, false, nos, false, false, 0, [], false, 0, false, nos, 0, nos, [], []⟩

/-- a text's bytes are valid. -/
def vd (s : ByteArray) : Bool := Lib.validD (sb s)
def textOk (s : ByteArray) (l m : Int) : Bool := textB (vd s) s l m
def topicOk (s : ByteArray) : Bool := textOk s 1 64 && plainOf (sb s)
def emp (s : ByteArray) : Bool := s.size == 0

def willOk (m : Mq) : Bool := if m.won then textOk m.wt 1 64 && (decide ((m.wp.size : Int) ≤ 128) && inRB m.wq 0 2) else emp m.wt && (emp m.wp && (m.wq == 0 && !m.wr))
def connectOk (m : Mq) : Bool :=
  textOk m.client 0 23 && (inRB m.keep 0 65535 && (willOk m && (textOk m.user 0 64 && (decide ((m.pass.size : Int) ≤ 64) && ((m.hu || (emp m.user && !m.hp)) && (m.hp || emp m.pass))))))
def publishOk (m : Mq) : Bool :=
  topicOk m.topic && (inRB m.qos 0 2 && (((decide (0 < m.qos) && inRB m.id 1 65535) || (m.qos == 0 && (m.id == 0 && !m.dup))) && decide ((m.payload.size : Int) ≤ 128)))
def wishesAll : List (ByteArray × Int) → Bool
  | [] => true
  | x :: xs => (textOk x.1 1 64 && inRB x.2 0 2) && wishesAll xs
def codesAll : List Int → Bool
  | [] => true
  | x :: xs => (inRB x 0 2 || x == 128) && codesAll xs
def filtersAll : List ByteArray → Bool
  | [] => true
  | x :: xs => textOk x 1 64 && filtersAll xs
def wishesOk (l : List (ByteArray × Int)) : Bool := wishesAll l && inRB l.length 1 8
def codesOk (l : List Int) : Bool := codesAll l && inRB l.length 1 8
def filtersOk (l : List ByteArray) : Bool := filtersAll l && inRB l.length 1 8

/-- which kinds have a packet identifier alone -/
def idKind (k : Int) : Bool := k == 4 || (k == 5 || (k == 6 || (k == 7 || k == 11)))
def bareKind (k : Int) : Bool := k == 12 || (k == 13 || k == 14)

/-- is what the kind names as it must be? -/
def okOf (m : Mq) : Bool :=
  if m.kind = 1 then connectOk m
  else if m.kind = 2 then inRB m.code 0 5 && (!m.present || m.code == 0)
  else if m.kind = 3 then publishOk m
  else if idKind m.kind then inRB m.id 1 65535
  else if m.kind = 8 then inRB m.id 1 65535 && wishesOk m.wishes
  else if m.kind = 9 then inRB m.id 1 65535 && codesOk m.codes
  else if m.kind = 10 then inRB m.id 1 65535 && filtersOk m.filters
  else bareKind m.kind

/-- what the kind names, and nothing else. -/
def onlyOf (m : Mq) : Mq :=
  if m.kind = 1 then { mq0 m.kind with client := m.client, clean := m.clean, keep := m.keep, won := m.won, wt := m.wt, wp := m.wp, wq := m.wq, wr := m.wr, user := m.user, hu := m.hu, pass := m.pass, hp := m.hp }
  else if m.kind = 2 then { mq0 m.kind with present := m.present, code := m.code }
  else if m.kind = 3 then { mq0 m.kind with topic := m.topic, qos := m.qos, dup := m.dup, retain := m.retain, id := m.id, payload := m.payload }
  else if idKind m.kind then { mq0 m.kind with id := m.id }
  else if m.kind = 8 then { mq0 m.kind with id := m.id, wishes := m.wishes }
  else if m.kind = 9 then { mq0 m.kind with id := m.id, codes := m.codes }
  else if m.kind = 10 then { mq0 m.kind with id := m.id, filters := m.filters }
  else mq0 m.kind

/-- a packet that may be. -/
def mayB (m : Mq) : Prop := okOf m = true ∧ m = onlyOf m

/-- a text's bytes, their number ahead. -/
def strB (s : ByteArray) : List UInt8 := big 2 s.size ++ sb s
def cb (b : Bool) (n : Nat) : Nat := if b then n else 0
def flagsC (m : Mq) : Nat := cb m.clean 2 + cb m.won 4 + 8 * m.wq.toNat + cb m.wr 32 + cb m.hp 64 + cb m.hu 128
def connectBy (m : Mq) : List UInt8 :=
  big 2 4 ++ [77, 81, 84, 84] ++ [4, UInt8.ofNat (flagsC m)] ++ big 2 m.keep.toNat ++ strB m.client
    ++ (if m.won then strB m.wt ++ strB m.wp else []) ++ (if m.hu then strB m.user else []) ++ (if m.hp then strB m.pass else [])
def publishBy (m : Mq) : List UInt8 := strB m.topic ++ (if 0 < m.qos then big 2 m.id.toNat else []) ++ sb m.payload
def wishesBy : List (ByteArray × Int) → List UInt8
  | [] => []
  | x :: xs => strB x.1 ++ [UInt8.ofNat x.2.toNat] ++ wishesBy xs
def codesBy : List Int → List UInt8
  | [] => []
  | x :: xs => UInt8.ofNat x.toNat :: codesBy xs
def filtersBy : List ByteArray → List UInt8
  | [] => []
  | x :: xs => strB x ++ filtersBy xs
def bodyBy (m : Mq) : List UInt8 :=
  if m.kind = 1 then connectBy m
  else if m.kind = 2 then [UInt8.ofNat (cb m.present 1), UInt8.ofNat m.code.toNat]
  else if m.kind = 3 then publishBy m
  else if m.kind = 8 then big 2 m.id.toNat ++ wishesBy m.wishes
  else if m.kind = 9 then big 2 m.id.toNat ++ codesBy m.codes
  else if m.kind = 10 then big 2 m.id.toNat ++ filtersBy m.filters
  else if bareKind m.kind then []
  else big 2 m.id.toNat
def flagsBy (m : Mq) : Nat :=
  if m.kind = 3 then cb m.dup 8 + 2 * m.qos.toNat + cb m.retain 1
  else if m.kind = 8 then 2 else if m.kind = 10 then 2 else if m.kind = 6 then 2 else 0
/-- a length, seven bits a byte. -/
def vlen (n : Nat) : List UInt8 := if n < 128 then [UInt8.ofNat n] else UInt8.ofNat (n % 128 + 128) :: vlen (n / 128)
decreasing_by omega
def layB (m : Mq) : List UInt8 := UInt8.ofNat (16 * m.kind.toNat + flagsBy m) :: (vlen (bodyBy m).length ++ bodyBy m)

end Go.Proofs.YtlacidnnankjlaaGreatDoor

/-
  What the library answers on texts: valid, a zero byte, '+' or '#', at every string.
-/
namespace Go.Proofs.YtlacidnnankjlaaGreatDoor
open Go.RowKit

/-- the library's two tables are as they were laid. -/
def Wd (w : World) : Prop := Lib.Utf8Tabs (Sh.lays196_ren.g 3) (Sh.lays196_ren.g 4) w
theorem Wd.below {w w' : World} (h : Wd w) (hb : Below w.heap.size w w') : Wd w' := by
  obtain ⟨h1, h2⟩ := h
  have k : ∀ (a : Addr) (v : Value), w.cell? a = some v → w'.cell? a = some v := fun a v hv => (hb.cell (World.block_lt_of_cell? w a hv)).trans hv
  exact ⟨fun c hc => k _ _ (h1 c hc), fun i hi => ⟨k _ _ (h2 i hi).1, k _ _ (h2 i hi).2⟩⟩
theorem Wd.drew {w : World} (h : Wd w) : Wd w.drew := h

theorem validW (s : ByteArray) (hs : s.size ≤ 140737488351232) (w : World) (hT : Wd w) :
    Calls Tryz.prog 105 #[.string s] w fun e w' => e = .returned (.bool (vd s)) ∧ Below w.heap.size w w' := Sh.utf8_ValidString s w (by omega) hT

theorem contains_noZero (xs : List UInt8) : xs.contains 0 = !noZero xs := by
  induction xs with
  | nil => rfl
  | cons x xs ih =>
    by_cases h : x = 0
    · subst h; simp [noZero]
    · have h1 : (x == 0) = false := by simpa using h
      have h2 : ((0 : UInt8) == x) = false := by simpa using fun e => h e.symm
      simp only [List.contains_cons, h2, Bool.false_or, ih, noZero, h1]
      rfl
theorem zeroW (s : ByteArray) (w : World) :
    Calls Tryz.prog 168 #[.string s, .string { data := #[0] }] w fun e w' => e = .returned (.bool (!noZero (sb s))) ∧ w = w' := by
  refine (Sh.strings_Contains_one s 0 w).mono ?_
  rintro e w' ⟨rfl, rfl⟩
  refine ⟨?_, rfl⟩
  rw [← contains_noZero, Lib.contains_iff_indexByte]

theorem quiet_add_same {P : Program} {f : FuncId} {args : Array Value} {w : World} {a n : Nat} {v : Value}
    (h : Calls P f args (w.drewN (a + n)) fun e w' => e = .returned v ∧ w' = w.drewN (a + n)) :
    Calls P f args (w.drewN (a + n)) fun e w'' => e = .returned v ∧ ∃ m, w'' = w.drewN (a + m) :=
  h.mono fun _ _ ⟨he, hm⟩ => ⟨he, n, hm⟩

theorem same_left {P : Program} {f : FuncId} {args : Array Value} {w : World} {v : Value} (h : Calls P f args w fun e w' => e = .returned v ∧ w' = w) : Calls P f args w fun e w' => e = .returned v ∧ w = w' :=
  h.mono fun _ _ ⟨a, b⟩ => ⟨a, b.symm⟩

/-! '+' or '#' -/
abbrev pm : ByteArray := { data := #[43, 35] }
theorem decode_span (s : ByteArray) (pos : Nat) (h : pos < s.size) (ha : 128 ≤ (s[pos]'h).toNat) : ∀ j, j < (Utf8.decode s pos).2 → pos + j < s.size ∧ 128 ≤ (s.get! (pos + j)).toNat := by
  have h0 : 128 ≤ (s.get! (pos + 0)).toNat := by rw [get_at s pos h]; exact ha
  have hn : ¬ (s.get! (pos + 0)).toNat < 128 := by omega
  have hp : pos + 0 < s.size := h
  intro j hj
  simp only [Utf8.decode, hn, if_false] at hj
  have k2 : ∀ k, (decide (pos + k < s.size) && ((s.get! (pos + k)).toNat / 64 == 2)) = true → pos + k < s.size ∧ 128 ≤ (s.get! (pos + k)).toNat := by
    intro k hk
    simp only [Bool.and_eq_true, decide_eq_true_eq, beq_iff_eq] at hk
    exact ⟨hk.1, by omega⟩
  have one : ∀ {j}, j < 1 → pos + j < s.size ∧ 128 ≤ (s.get! (pos + j)).toNat := fun {j} hj => by
    obtain rfl : j = 0 := by omega
    exact ⟨hp, h0⟩
  split at hj
  · rename_i hc
    simp only [Bool.and_eq_true] at hc
    split at hj
    · have hj' : j = 0 ∨ j = 1 := by simp only at hj; omega
      rcases hj' with rfl | rfl
      · exact ⟨hp, h0⟩
      · exact k2 1 (by simpa using hc.2)
    · exact one hj
  · split at hj
    · rename_i hc
      simp only [Bool.and_eq_true] at hc
      split at hj
      · have hj' : j = 0 ∨ j = 1 ∨ j = 2 := by simp only at hj; omega
        rcases hj' with rfl | rfl | rfl
        · exact ⟨hp, h0⟩
        · exact k2 1 (by simpa using hc.1.2)
        · exact k2 2 (by simpa using hc.2)
      · exact one hj
    · split at hj
      · rename_i hc
        simp only [Bool.and_eq_true] at hc
        split at hj
        · have hj' : j = 0 ∨ j = 1 ∨ j = 2 ∨ j = 3 := by simp only at hj; omega
          rcases hj' with rfl | rfl | rfl | rfl
          · exact ⟨hp, h0⟩
          · exact k2 1 (by simpa using hc.1.1.2)
          · exact k2 2 (by simpa using hc.1.2)
          · exact k2 3 (by simpa using hc.2)
        · exact one hj
      · exact one hj
theorem plain_skip (s : ByteArray) (pos : Nat) : ∀ n, (∀ j, j < n → pos + j < s.size ∧ 128 ≤ (s.get! (pos + j)).toNat) → plainOf ((sb s).drop (pos + n)) = plainOf ((sb s).drop pos)
  | 0, _ => rfl
  | n + 1, h => by
    rw [← plain_skip s pos n (fun j hj => h j (by omega))]
    obtain ⟨h1, h2⟩ := h n (by omega)
    have e : s.get! (pos + n) = s[pos + n]'h1 := get_at s (pos + n) h1
    rw [e] at h2
    rw [sb_drop s (pos + n) h1, plainOf]
    have a : (s[pos + n] == 43) = false := by rw [beq_eq_false_iff_ne]; intro e; rw [e] at h2; exact absurd h2 (by decide)
    have b : (s[pos + n] == 35) = false := by rw [beq_eq_false_iff_ne]; intro e; rw [e] at h2; exact absurd h2 (by decide)
    rw [a, b]
    rfl

set_option maxRecDepth 100000 in
set_option maxHeartbeats 1600000 in
theorem runeHigh (r : Int) (h1 : 128 ≤ r) (h2 : r ≤ 2147483647) (w : World) :
    Calls Tryz.prog 173 #[.string pm, .int .i32 r] w fun e w' => e = .returned (.int .i64 (-1)) ∧ Below w.heap.size w w' := by
  have h0 : (0 : Int) ≤ r := by omega
  have h128 : decide (r < 128) = false := decide_eq_false (by omega)
  by_cases hE : r = 65533
  · subst hE
    go_enter Tryz.func173, Tryz.ntmps173
    go_wp2
    go_loopg [5, 6] 2 (fun gk _ _ wx => ∃ i : Nat, i + gk = 2 ∧ wx = w.iter pm i)
    case atStart => exact ⟨0, rfl, rfl⟩
    case round =>
      obtain ⟨i, hig, rfl⟩ := hrel
      cases gk with
      | zero =>
        obtain rfl : i = 2 := by omega
        have hnx := run_next_end (P := Tryz.prog) w pm 2
        go_wp2
        go_ret
        exact ⟨rfl, balloc w _⟩
      | succ g =>
        have hi : i = 0 ∨ i = 1 := by omega
        rcases hi with rfl | rfl
        · have hnx := fun ty => run_next_ascii (P := Tryz.prog) w pm 0 ty (by decide) (by decide)
          go_wp2
          go_roundg g
          case measure => omega
          case rel => exact ⟨1, by omega, rfl⟩
        · have hnx := fun ty => run_next_ascii (P := Tryz.prog) w pm 1 ty (by decide) (by decide)
          go_wp2
          go_roundg g
          case measure => omega
          case rel => exact ⟨2, by omega, rfl⟩
  · have hE' : (r == 65533) = false := by rw [beq_eq_false_iff_ne]; exact hE
    have KV := Lib.hid (Sh.utf8_ValidRune r w)
    cases hv : Lib.validRune r with
    | false =>
      rw [hv] at KV
      go_enter Tryz.func173, Tryz.ntmps173
      go_wp2_with (go_at_call 182; (with_reducible refine KV.out.mono ?_); rintro _ w' ⟨rfl, rfl⟩)
      go_ret
      exact ⟨rfl, Below.refl _ _⟩
    | true =>
      rw [hv] at KV
      have hu : Utf8.valid r = true := by
        have := hv
        simp only [Lib.validRune, decide_eq_true_eq] at this
        simp [Utf8.valid]
        omega
      obtain ⟨s2, s4, slast⟩ := encode_facts r hu h1
      obtain ⟨nd, hnd⟩ : ∃ nd, Utf8.encode r = nd := ⟨_, rfl⟩
      rw [hnd] at s2 s4 slast
      have hs : nd.size = 2 ∨ 2 < nd.size := by omega
      clear hu
      rcases hs with hs | hs
      · have hl : 128 ≤ (nd[1]'(by omega)).toNat := by
          have := slast (by omega)
          simpa [hs] using this
        have hi1 : (1 : Nat) < nd.size := by omega
        have hi1I : (1 : Int) < (nd.size : Int) := by omega
        obtain ⟨y, hy⟩ : ∃ y, nd[1]'(by omega) = y := ⟨_, rfl⟩
        rw [hy] at hl
        have hne : (((pm[1]'(by decide)).toNat : Int) != (y.toNat : Int)) = true := by
          have : (pm[1]'(by decide)).toNat = 35 := rfl
          rw [bne_iff_ne, this]
          omega
        go_enter Tryz.func173, Tryz.ntmps173
        go_wp2_with (go_at_call 182; (with_reducible refine KV.out.mono ?_); rintro _ w' ⟨rfl, rfl⟩)
        refine wp_scope_fwd 1 rfl ?_
        go_wp2
        refine wp_loop_rounds 1 ?_
        rw [rounds_succ]
        go_wp2
        refine wp_scope_fwd 0 rfl ?_
        go_wp2
        go_quiet (fail)
        go_wp2
        have hw2 : IntKind.i64.wrap 2 = 2 := by decide
        have hix : ∀ c : UInt8, Lib.indexByte (pm.extract 2 2).data.toList c = -1 := fun c => rfl
        go_quiet ((go_at_call 181; exact quiet_add_same (Sh.strings_IndexByte _ _ _)))
        go_wp2
        simp only [Exit.jump]
        go_wp2
        simp only [Exit.jump]
        go_ret
        exact ⟨rfl, below_drewN (Below.refl _ _) _⟩
      · have e1 : (2 : Int) ≤ (nd.size : Int) - 1 := by omega
        go_enter Tryz.func173, Tryz.ntmps173
        go_wp2_with (go_at_call 182; (with_reducible refine KV.out.mono ?_); rintro _ w' ⟨rfl, rfl⟩)
        refine wp_scope_fwd 1 rfl ?_
        go_wp2
        refine wp_loop_rounds 1 ?_
        rw [rounds_succ]
        go_wp2
        simp only [Exit.jump]
        go_ret
        exact ⟨rfl, Below.refl _ _⟩

theorem plain_any (xs : List UInt8) : decide (0 ≤ Lib.indexAny xs (sb pm)) = !plainOf xs := by
  induction xs with
  | nil => rfl
  | cons x xs ih =>
    have h1 := Lib.indexAny_ge (sb pm) xs
    by_cases h : x = 43 ∨ x = 35
    · have hc : (sb pm).contains x = true := by rcases h with rfl | rfl <;> rfl
      have hp : plainOf (x :: xs) = false := by rw [plainOf]; rcases h with rfl | rfl <;> rfl
      rw [hp, Lib.indexAny, if_pos hc]
      rfl
    · have a : (x == 43) = false := by rw [beq_eq_false_iff_ne]; exact fun e => h (Or.inl e)
      have b : (x == 35) = false := by rw [beq_eq_false_iff_ne]; exact fun e => h (Or.inr e)
      have hc : (sb pm).contains x = false := by
        show [(43 : UInt8), 35].contains x = false
        rw [List.contains_cons, List.contains_cons, List.contains_nil, a, b]
        rfl
      have hp : plainOf (x :: xs) = plainOf xs := by rw [plainOf, a, b]; rfl
      rw [hp, ← ih, Lib.indexAny, hc, if_neg (by simp)]
      by_cases hm : Lib.indexAny xs (sb pm) = -1
      · rw [hm]; rfl
      · have hm2 : (Lib.indexAny xs (sb pm) == -1) = false := by rw [beq_eq_false_iff_ne]; exact hm
        rw [hm2]
        have h0 : 0 ≤ Lib.indexAny xs (sb pm) := by omega
        rw [if_neg (by simp), decide_eq_true h0, decide_eq_true (by omega)]

/-- strings.IndexAny(s, "+#"): not below 0 just if there is one of the two. -/
def AnyPm (s : ByteArray) (w : World) (e : Ending) (w' : World) : Prop := ∃ v : Int, e = .returned (.int .i64 v) ∧ decide (0 ≤ v) = !plainOf (sb s) ∧ Below w.heap.size w w'
theorem anyLong (s : ByteArray) (h8 : 8 < s.size) (hs : s.size < 4294967281) (w : World) : Calls Tryz.prog 171 #[.string s, .string pm] w (AnyPm s w) := by
  refine (Sh.strings_IndexAny_long (fun _ => by kernel_rfl) s pm w (by decide) h8 hs (by decide) ?_).mono ?_
  · intro j b hb
    match j, hb with
    | 0, hb => simp at hb; subst hb; decide
    | 1, hb => simp at hb; subst hb; decide
  · rintro e w' ⟨rfl, rfl⟩
    exact ⟨_, rfl, plain_any (sb s), (balloc w _).trans ((balloc _ _).mono (balloc w _).size)⟩

set_option maxRecDepth 100000 in
set_option maxHeartbeats 1600000 in
theorem anyShort (s : ByteArray) (h8 : s.size ≤ 8) (w : World) : Calls Tryz.prog 171 #[.string s, .string pm] w (AnyPm s w) := by
  have h8z : decide ((8 : Int) < (s.size : Int)) = false := decide_eq_false (by omega)
  go_enter Tryz.func171, Tryz.ntmps171
  go_wp2_with (go_at_call 174; (with_reducible refine (same_left (Sh.strings_shouldUseASCIISet _ _)).mono ?_); rintro e w' ⟨rfl, rfl⟩)
  go_loopg [9, 10] (s.size + 1) (fun gk _ _ wx => ∃ (i : Nat), s.size < i + gk ∧ i ≤ s.size ∧ Hid (wx.heap[w.heap.size]? = some (.stringIter s i)) ∧ Below w.heap.size w wx ∧ Hid (plainOf ((sb s).drop i) = plainOf (sb s)))
  case atStart => exact ⟨0, by omega, by omega, World.iter_heap w s 0, balloc w _, rfl⟩
  case round =>
    obtain ⟨i, hig, his, hk, hbel, hp⟩ := hrel
    by_cases hi : i < s.size
    · have hd := sb_drop s i hi
      by_cases ha : (s[i]'hi).toNat < 128
      · obtain ⟨x, hx⟩ : ∃ x : UInt8, s[i]'hi = x := ⟨_, rfl⟩
        rw [hx] at ha hd
        have hnx := fun ty => Lib.run_next_ascii_at (P := Tryz.prog) wr w.heap.size s i ty hk.out hi (by rw [hx]; exact ha)
        rw [hx] at hnx
        have hback : ((x.toNat : Int)).toNat.toUInt8 = x := by simp
        have KR := Lib.hid (fun w1 => same_left (Sh.strings_IndexRune_ascii pm (x.toNat : Int) w1 (by omega) (by omega)))
        rw [hback] at KR
        obtain ⟨v, hv⟩ : ∃ v, Lib.indexByte pm.data.toList x = v := ⟨_, rfl⟩
        rw [hv] at KR
        have hb2 := Lib.hid (Lib.below_iterAt hbel (Nat.le_refl _) s (i + 1))
        have hk2 : Hid ((wr.iterAt w.heap.size s (i + 1)).heap[w.heap.size]? = some (.stringIter s (i + 1))) := Lib.iterAt_heap wr w.heap.size s i (i + 1) hk.out
        have hg1 : 1 ≤ gk := by omega
        by_cases hb : x = 43 ∨ x = 35
        · have hge : 0 ≤ v := by
            rw [← hv]
            rcases hb with rfl | rfl <;> decide
          have hf : Hid (plainOf (sb s) = false) := by
            unfold Hid
            rw [← hp.out, hd, plainOf]
            rcases hb with rfl | rfl <;> rfl
          clear hb hv hback hd hx hp ha
          go_wp2_with (go_at_call 173; (with_reducible refine (KR.out _).mono ?_); rintro _ w2 ⟨rfl, rfl⟩)
          go_ret
          exact ⟨(i : Int), rfl, by rw [hf.out]; exact decide_eq_true (by omega), hb2.out⟩
        · have hlt : ¬ 0 ≤ v := by
            rw [← hv]
            have a : (43 : UInt8) ≠ x := fun e => hb (Or.inl e.symm)
            have b : (35 : UInt8) ≠ x := fun e => hb (Or.inr e.symm)
            have hc : pm.data.toList.contains x = false := by
              simp [Ne.symm a, Ne.symm b]
            rw [Lib.contains_iff_indexByte] at hc
            exact of_decide_eq_false hc
          have hf : Hid (plainOf ((sb s).drop (i + 1)) = plainOf (sb s)) := by
            unfold Hid
            rw [← hp.out, hd, plainOf]
            have a : (x == 43) = false := by rw [beq_eq_false_iff_ne]; exact fun e => hb (Or.inl e)
            have b : (x == 35) = false := by rw [beq_eq_false_iff_ne]; exact fun e => hb (Or.inr e)
            rw [a, b]
            rfl
          clear hb hv hback hd hx hp ha
          go_wp2_with (go_at_call 173; (with_reducible refine (KR.out _).mono ?_); rintro _ w2 ⟨rfl, rfl⟩)
          go_roundg (gk - 1)
          case measure => omega
          case rel => exact ⟨i + 1, by omega, by omega, hk2, hb2.out, hf⟩
      · have hsp := decode_span s i hi (by omega)
        obtain ⟨d1, d2⟩ := decode_high s i hi (by omega)
        have d3 := decode_le s i
        have hnx := fun ty => Lib.run_next_any_at (P := Tryz.prog) wr w.heap.size s i ty hk.out hi
        have hf := plain_skip s i _ hsp
        obtain ⟨⟨r, n⟩, hrn⟩ : ∃ q, Utf8.decode s i = q := ⟨_, rfl⟩
        rw [hrn] at hsp d1 d2 d3 hnx hf
        dsimp only at hsp d1 d2 d3 hnx hf
        have hle : i + n ≤ s.size := by have := (hsp (n - 1) (by omega)).1; omega
        have KR := Lib.hid (fun w1 => runeHigh (r : Int) (by omega) (by omega) w1)
        have hf2 : Hid (plainOf ((sb s).drop (i + n)) = plainOf (sb s)) := hf.trans hp.out
        have hb2 := Lib.hid (Lib.below_iterAt hbel (Nat.le_refl _) s (i + n))
        have hk2 : Hid ((wr.iterAt w.heap.size s (i + n)).heap[w.heap.size]? = some (.stringIter s (i + n))) := Lib.iterAt_heap wr w.heap.size s i (i + n) hk.out
        have hlt : w.heap.size < (wr.iterAt w.heap.size s (i + n)).heap.size := (Array.getElem?_eq_some_iff.1 hk2.out).1
        clear hf hd hp hsp hrn ha
        go_wp2_with (go_at_call 173; (with_reducible refine (KR.out _).mono ?_); rintro _ w2 ⟨rfl, hb3⟩; have HB3 := Lib.hid hb3; clear hb3)
        go_roundg (gk - 1)
        case measure => omega
        case rel => exact ⟨i + n, by omega, by omega, (HB3.out.block _ hlt).trans hk2.out, hb2.out.trans (HB3.out.mono (Nat.le_of_lt hlt)), hf2⟩
    · have hnx := Lib.run_next_end_at (P := Tryz.prog) wr w.heap.size s i
      have hnx2 := fun ty => hnx ty hk.out hi
      obtain rfl : i = s.size := by omega
      have hf : Hid (plainOf (sb s) = true) := by
        unfold Hid
        rw [← hp.out, List.drop_eq_nil_of_le (by rw [sb_length]; exact Nat.le_refl _)]
        rfl
      clear hp hnx
      go_wp2
      go_ret
      exact ⟨-1, rfl, by rw [hf.out]; rfl, hbel⟩

set_option maxRecDepth 100000 in
theorem anyW (s : ByteArray) (hs : s.size < 4294967281) (w : World) :
    Calls Tryz.prog 169 #[.string s, .string pm] w fun e w' => e = .returned (.bool (!plainOf (sb s))) ∧ Below w.heap.size w w' := by
  have K : Calls Tryz.prog 171 #[.string s, .string pm] w (AnyPm s w) := by
    rcases Nat.lt_or_ge 8 s.size with h | h
    · exact anyLong s h hs w
    · exact anyShort s h w
  unfold AnyPm at K
  generalize (!plainOf (sb s)) = v at *
  have HK := Lib.hid K
  clear K
  go_enter Tryz.func169, Tryz.ntmps169
  go_wp2_with fail
  (with_reducible refine HK.out.mono ?_)
  rintro _ w1 ⟨n, rfl, hn, hb⟩
  have HN := Lib.hid hn
  have HB := Lib.hid hb
  clear HK hn hb
  go_wp2
  go_ret
  exact ⟨by rw [← HN.out]; rfl, HB.out⟩

/-! texts -/
theorem packTextV (s : ByteArray) (hs : s.size ≤ 140737488351232) (l m : Int) (w : World) (hT : Wd w) :
    Calls Tryz.prog 165 #[.string s, .int .i64 l, .int .i64 m] w fun e w' => e = .returned (.bool (textOk s l m)) ∧ Below w.heap.size w w' :=
  packTextW s hs l m (vd s) w (validW s hs w hT) (fun w1 _ => (zeroW s w1).mono fun _ _ ⟨h1, h2⟩ => ⟨h1, h2 ▸ Below.refl _ _⟩)
theorem textOk_size {s : ByteArray} {l m : Int} (h : textOk s l m = true) : l ≤ s.size ∧ (s.size : Int) ≤ m := by
  unfold textOk textB at h
  rw [Bool.and_eq_true] at h
  exact inRB_iff.1 h.1
set_option maxRecDepth 100000 in
theorem packTopicV (s : ByteArray) (hs : s.size ≤ 140737488351232) (w : World) (hT : Wd w) :
    Calls Tryz.prog 167 #[.string s] w fun e w' => e = .returned (.bool (topicOk s)) ∧ Below w.heap.size w w' := by
  have HT := Lib.hid (packTextV s hs 1 64 w hT)
  unfold topicOk
  cases hb : textOk s 1 64 with
  | false =>
    rw [hb] at HT
    go_enter Tryz.func167, Tryz.ntmps167
    go_wp2_with (go_at_call 165; (with_reducible refine HT.out.mono ?_); rintro _ w2 ⟨rfl, hb2⟩; have HB2 := Lib.hid hb2; clear hb2)
    go_ret
    exact ⟨rfl, HB2.out⟩
  | true =>
    have HA := Lib.hid (fun w1 => anyW s (by have := (textOk_size hb).2; omega) w1)
    rw [hb] at HT
    go_enter Tryz.func167, Tryz.ntmps167
    go_wp2_with (first
      | (go_at_call 165; (with_reducible refine HT.out.mono ?_); rintro _ w2 ⟨rfl, hb2⟩; have HB2 := Lib.hid hb2; clear hb2)
      | (go_at_call 169; (with_reducible refine (HA.out w2).mono ?_); rintro _ w3 ⟨rfl, hb3⟩; have HB3 := Lib.hid (HB2.out.trans (hb3.mono HB2.out.size)); clear hb3))
    go_ret
    exact ⟨by simp, HB3.out⟩

end Go.Proofs.YtlacidnnankjlaaGreatDoor

/-
  How bytes are read as packets of chapter 18, without a program: the reader of package pack and that of the page.
-/
namespace Go.Proofs.YtlacidnnankjlaaGreatDoor
open Go.RowKit

/-- what is left, and whether something was wrong. -/
abbrev Rd := List UInt8 × Bool
/-- package pack's reader: so many bytes. -/
def takeP (s : Rd) (n : Nat) : List UInt8 × Rd :=
  if s.2 = false ∧ n ≤ s.1.length then (s.1.take n, (s.1.drop n, false)) else (List.replicate n 0, (s.1, true))
abbrev mkS (xs : List UInt8) : ByteArray := ⟨xs.toArray⟩
def oneP (s : Rd) : UInt8 × Rd := ((takeP s 1).1.headD 0, (takeP s 1).2)
def twoP (s : Rd) : Nat × Rd := ((oneP s).1.toNat * 256 + (oneP (oneP s).2).1.toNat, (oneP (oneP s).2).2)
def textP (s : Rd) : ByteArray × Rd := (mkS (takeP (twoP s).2 (twoP s).1).1, (takeP (twoP s).2 (twoP s).1).2)
def bitB (f : UInt8) (n : UInt8) : Bool := f &&& n != 0

/-- what a packet that wants to be connected has, by whatever reader. -/
structure Conn where
  f : UInt8
  k : Nat × Rd
  c : ByteArray × Rd
  t : ByteArray × Rd
  y : ByteArray × Rd
  u : ByteArray × Rd
  q : ByteArray × Rd
  s : Rd
def connOf (one : Rd → UInt8 × Rd) (two : Rd → Nat × Rd) (text : Rd → ByteArray × Rd) (s : Rd) : Conn :=
  let f := one s
  let k := two f.2
  let c := text k.2
  let t := text c.2
  let y := text t.2
  let s5 := if bitB f.1 4 then y.2 else c.2
  let u := text s5
  let s6 := if bitB f.1 128 then u.2 else s5
  let q := text s6
  let s7 := if bitB f.1 64 then q.2 else s6
  ⟨f.1, k, c, t, y, u, q, s7⟩
def Conn.mq (r : Conn) : Mq :=
  { mq0 1 with
    keep := r.k.1, client := r.c.1, clean := bitB r.f 2, hp := bitB r.f 64, hu := bitB r.f 128, won := bitB r.f 4,
    wt := (if bitB r.f 4 then r.t.1 else nos), wp := (if bitB r.f 4 then r.y.1 else nos), wq := (if bitB r.f 4 then ((r.f >>> 3 &&& 3).toNat : Int) else 0), wr := (bitB r.f 4 && bitB r.f 32),
    user := (if bitB r.f 128 then r.u.1 else nos), pass := (if bitB r.f 64 then r.q.1 else nos) }
def connP (s : Rd) : Conn := connOf oneP twoP textP (takeP s 7).2
def pubMq (f : UInt8) (t : ByteArray) (i : Nat) (p : ByteArray) : Mq :=
  { mq0 3 with dup := bitB f 8, qos := ((f >>> 1 &&& 3).toNat : Int), retain := bitB f 1, topic := t, id := (if f >>> 1 &&& 3 != 0 then (i : Int) else 0), payload := p }
def pubP (f : UInt8) (s : Rd) : Mq × Rd :=
  let t := textP s
  let i := twoP t.2
  let s2 := if f >>> 1 &&& 3 != 0 then i.2 else t.2
  let p := takeP s2 s2.1.length
  (pubMq f t.1 i.1 (mkS p.1), p.2)
def loopP (k : Int) : Nat → Mq → Rd → Mq × Rd
  | 0, m, s => (m, s)
  | f + 1, m, s =>
    if s.2 = false ∧ 0 < s.1.length then
      if k = 8 then loopP k f { m with wishes := m.wishes ++ [((textP s).1, ((oneP (textP s).2).1.toNat : Int))] } (oneP (textP s).2).2
      else if k = 9 then loopP k f { m with codes := m.codes ++ [((oneP s).1.toNat : Int)] } (oneP s).2
      else loopP k f { m with filters := m.filters ++ [(textP s).1] } (textP s).2
    else (m, s)
def listKind (k : Int) : Bool := k == 8 || (k == 9 || k == 10)
/-- package pack: the packet of a kind, flags. -/
def readP (k : Int) (f : UInt8) (s : Rd) : Mq × Rd :=
  if k = 1 then ((connP s).mq, (connP s).s)
  else if k = 2 then ({ mq0 k with present := (oneP s).1 == 1, code := ((oneP (oneP s).2).1.toNat : Int) }, (oneP (oneP s).2).2)
  else if k = 3 then pubP f s
  else if listKind k then loopP k ((twoP s).2.1.length + 1) { mq0 k with id := ((twoP s).1 : Int) } (twoP s).2
  else if idKind k then ({ mq0 k with id := ((twoP s).1 : Int) }, (twoP s).2)
  else (mq0 k, s)
/-! what is laid is read -/
theorem takeP_app (a b : List UInt8) (n : Nat) (h : a.length = n) : takeP (a ++ b, false) n = (a, (b, false)) := by
  subst h; unfold takeP; rw [if_pos ⟨rfl, by simp⟩]; simp
theorem oneP_cons (x : UInt8) (b : List UInt8) : oneP (x :: b, false) = (x, (b, false)) := by
  unfold oneP; rw [show x :: b = [x] ++ b from rfl, takeP_app [x] b 1 rfl]; rfl
theorem big2 (n : Nat) : big 2 n = [UInt8.ofNat (n / 256), UInt8.ofNat n] := by simp [big]
theorem twoP_big (n : Nat) (h : n < 65536) (b : List UInt8) : twoP (big 2 n ++ b, false) = (n, (b, false)) := by
  unfold twoP
  rw [big2]
  simp only [List.cons_append, List.nil_append, oneP_cons, UInt8.toNat_ofNat']
  congr 1
  omega
theorem mkS_sb (s : ByteArray) : mkS (sb s) = s := by
  cases s; simp [mkS, sb]
theorem textP_str (s : ByteArray) (h : s.size < 65536) (b : List UInt8) : textP (strB s ++ b, false) = (s, (b, false)) := by
  unfold textP strB
  rw [List.append_assoc, twoP_big _ h]
  simp only []
  rw [takeP_app _ _ s.size (sb_length s)]
end Go.Proofs.YtlacidnnankjlaaGreatDoor

/-
  The readers of chapter 18: a struct of two cells behind a pointer; 'take' of both.
-/
namespace Go.Proofs.YtlacidnnankjlaaGreatDoor
open Go.RowKit

/-- a reader's two cells: what is left, whether something was wrong. -/
def RdAt (w : World) (B g : Nat) (s : Rd) : Prop :=
  ∃ A c, s.1.length ≤ c ∧ w.cell? ⟨g, 0, none⟩ = some (.slice A s.1.length c) ∧ w.cell? ⟨g, 1, none⟩ = some (.bool s.2) ∧
    w.frozen? ⟨g, 0, none⟩ = false ∧ w.frozen? ⟨g, 1, none⟩ = false ∧ RB w B A s.1 ∧ B ≤ g ∧ g < w.heap.size
theorem RdAt.of {w : World} {B g : Nat} {A : Option Addr} {xs : List UInt8} {bad : Bool} {n c : Nat} (hl : xs.length = n) (hc : n ≤ c) (c0 : w.cell? ⟨g, 0, none⟩ = some (.slice A n c)) (c1 : w.cell? ⟨g, 1, none⟩ = some (.bool bad))
    (f0 : w.frozen? ⟨g, 0, none⟩ = false) (f1 : w.frozen? ⟨g, 1, none⟩ = false) (hr : RB w B A xs) (hB : B ≤ g) (hg : g < w.heap.size) : RdAt w B g (xs, bad) := by
  subst hl; exact ⟨A, c, hc, c0, c1, f0, f1, hr, hB, hg⟩
/-- what was not written is as it was. -/
theorem RdAt.kept {w w' : World} {B g : Nat} {s : Rd} {row : Option Nat} (h : RdAt w B g s) (hg : w.grownBy w' row) (hB : ∀ k, row = some k → B ≤ k) (hne : some g ≠ row) : RdAt w' B g s := by
  obtain ⟨A, c, hc, c0, c1, f0, f1, hr, hBg, hlt⟩ := h
  have hk : ∀ p : Addr, p.block < w.heap.size → some p.block ≠ row → w'.cell? p = w.cell? p := fun p hp hn => World.cell?_of_block (hg.block _ hp hn)
  have hf : ∀ p : Addr, p.block < w.heap.size → some p.block ≠ row → w'.frozen? p = w.frozen? p := fun p hp hn => World.frozen?_of_block (hg.block _ hp hn)
  refine ⟨A, c, hc, (hk ⟨g, 0, none⟩ hlt hne).trans c0, (hk ⟨g, 1, none⟩ hlt hne).trans c1, (hf ⟨g, 0, none⟩ hlt hne).trans f0, (hf ⟨g, 1, none⟩ hlt hne).trans f1, ?_, hBg, Nat.lt_of_lt_of_le hlt hg.size⟩
  refine hr.keep fun p hp => hk p (by omega) (fun e => ?_)
  have := hB _ e.symm
  omega
theorem zeros_bv (n : Nat) : (madeCells (Value.cells (.int .u8 0)) (n * 1)).toList = (List.replicate n (0 : UInt8)).map bv := by
  rw [Nat.mul_one]
  apply List.ext_getElem?
  intro j
  rcases Nat.lt_or_ge j n with h | h
  · simp [madeCells, Value.cells, h, Nat.mod_one]
  · simp [madeCells, Value.cells, h]
/-- make([]byte, n). -/
theorem wpList_make_bytes {P : Program} {w : World} {ops : Array Oper} {rest : List Oper} {o : Oper} {a : Act} {Q : Exit → Act → World → Prop}
    (hg : o.guard = none) (l c : Operand) (t e : TypeId) (hop : o.op = Op.makeSlice t l c) (ht : P.underlying t = some (.slice e)) (hi : (P.info? e).map (fun i => (i.zero, i.size, i.bytes)) = some (some (.int .u8 0), 1, 1))
    (n : Nat) (hl : a.eval l = .int .i64 (n : Int)) (hc : a.eval c = .int .i64 (n : Int)) (hn : n ≤ 1000000)
    (hK : ∀ w', RB w' w'.heap.size (some ⟨w.heap.size, 0, none⟩) (List.replicate n 0) → w.grownBy w' none → wpList P ops Q rest (a.put o.dst (.slice (some ⟨w.heap.size, 0, none⟩) n n)) w') :
    wpList P ops Q (o :: rest) a w := by
  obtain ⟨i0, hi0, hz0, hz1, hz2⟩ := info_parts hi
  refine wpList_make_full w hg l c t hop w.heap.size e i0 (.int .u8 0) 1 ht hi0 hz0 hz1 .i64 .i64 (n : Int) (n : Int) n hl hc rfl rfl (by rw [hz2]; omega) (by unfold maxLen; omega) (Nat.le_refl _) ?_
  intro w' ho hgr
  rw [zeros_bv] at ho
  exact hK w' (RB.of_ownN ho) hgr

theorem takeP_bad (s : Rd) (n : Nat) (h : ¬ (s.2 = false ∧ n ≤ s.1.length)) : takeP s n = (List.replicate n 0, (s.1, true)) := by unfold takeP; rw [if_neg h]
theorem takeP_ok (s : Rd) (n : Nat) (h : s.2 = false ∧ n ≤ s.1.length) : takeP s n = (s.1.take n, (s.1.drop n, false)) := by unfold takeP; rw [if_pos h]

/-- what 'take' leaves: the bytes, the reader. -/
def Took (w : World) (B g n : Nat) (r : List UInt8 × Rd) (e : Ending) (w' : World) : Prop :=
  ∃ A' c', e = .returned (.slice A' n c') ∧ n ≤ c' ∧ r.1.length = n ∧ RB w' w'.heap.size A' r.1 ∧ RdAt w' B g r.2 ∧ w.grownBy w' (some g)
theorem took_bad {w w1 w' : World} {B g n c H : Nat} (_hH : w1.heap.size = H) {A : Option Addr} {xs : List UInt8} (hc : xs.length ≤ c) (c0 : w1.cell? ⟨g, 0, none⟩ = some (.slice A xs.length c)) (c1 : w1.cell? ⟨g, 1, none⟩ = some (.bool true))
    (f0 : w1.frozen? ⟨g, 0, none⟩ = false) (f1 : w1.frozen? ⟨g, 1, none⟩ = false) (hr : RB w1 B A xs) (hB : B ≤ g) (hg : g < w1.heap.size) (h1 : w.grownBy w1 (some g))
    (hr2 : RB w' w'.heap.size (some ⟨H, 0, none⟩) (List.replicate n 0)) (h2 : w1.grownBy w' none) :
    Took w B g n (List.replicate n 0, (xs, true)) (.returned (.slice (some ⟨H, 0, none⟩) n n)) w' := by
  refine ⟨_, _, rfl, Nat.le_refl _, by simp, hr2, ?_, h1.trans (grown_row h2 _)⟩
  have : RdAt w1 B g (xs, true) := RdAt.of rfl hc c0 c1 f0 f1 hr hB hg
  exact this.kept h2 (by simp) (by simp)

theorem took_ok {w : World} {B g n c : Nat} {A : Option Addr} {xs : List UInt8} (hc : xs.length ≤ c) (hle : n ≤ xs.length) (c0 : w.cell? ⟨g, 0, none⟩ = some (.slice A xs.length c)) (c1 : w.cell? ⟨g, 1, none⟩ = some (.bool false))
    (f0 : w.frozen? ⟨g, 0, none⟩ = false) (f1 : w.frozen? ⟨g, 1, none⟩ = false) (hr : RB w B A xs) (hB : B ≤ g) (hg : g < w.heap.size) :
    Took w B g n (xs.take n, (xs.drop n, false)) (.returned (.slice A n c)) ((w.setCell ⟨g, 0, none⟩ (.slice (if c = n then A else A.map (·.add n)) (xs.length - n) (c - n))).drew) := by
  have hO := (Only.refl g w).set 0 (.slice (if c = n then A else A.map (·.add n)) (xs.length - n) (c - n))
  refine ⟨_, _, rfl, by omega, by simp; omega, ?_, ?_, ?_⟩
  · exact ((hr.take n).only hO hB).more (by show B ≤ (w.setCell _ _).heap.size; rw [size_setCell']; omega)
  · refine RdAt.of (w := (w.setCell ⟨g, 0, none⟩ _).drew) (A := (if c = n then A else A.map (·.add n))) (n := xs.length - n) (c := c - n) (by simp) (by omega) ?_ ?_ ?_ ?_ ?_ hB ?_
    · exact World.cell?_setCell_same _ _ _ c0
    · show (w.setCell _ _).cell? _ = _
      rw [World.cell?_setCell_other _ _ _ _ (by simp)]; exact c1
    · show (w.setCell _ _).frozen? _ = _
      simpa using f0
    · show (w.setCell _ _).frozen? _ = _
      simpa using f1
    · exact (hr.cut hle hc).only hO.drew hB
    · show g < (w.setCell _ _).heap.size
      rw [size_setCell']; exact hg
  · have := grown_setCell w g 0 (.slice (if c = n then A else A.map (·.add n)) (xs.length - n) (c - n))
    exact ⟨this.os, this.tape, this.output, this.size, this.block⟩

set_option maxRecDepth 100000 in
set_option maxHeartbeats 800000 in
theorem packTake (B g : Nat) (s : Rd) (n : Nat) (nI : Int) (hn : nI = (n : Int)) (hn' : n ≤ 1000000) (w : World) (h : RdAt w B g s) :
    Calls Tryz.prog 143 #[.pointer (some ⟨g, 0, none⟩), .int .i64 nI] w (Took w B g n (takeP s n)) := by
  subst hn
  obtain ⟨xs, bad⟩ := s
  obtain ⟨A, c, hc, c0, c1, f0, f1, hr, hB, hg⟩ := h
  dsimp only at hc c0 c1 hr
  by_cases hok : bad = false ∧ n ≤ xs.length
  · rw [takeP_ok _ _ hok]
    obtain ⟨rfl, hle⟩ := hok
    have hnI : (n : Int) ≤ (xs.length : Int) := by omega
    have hnc : (n : Int) ≤ (c : Int) := by omega
    have hnI' : n ≤ c := by omega
    have hn0 : (0 : Int) ≤ (n : Int) := by omega
    have HT := Lib.hid (took_ok hc hle c0 c1 f0 f1 hr hB hg)
    clear hr
    by_cases hcn : c = n
    · subst hcn
      rw [if_pos rfl, show xs.length - c = 0 by omega, Nat.sub_self] at HT
      go_enter Tryz.func143, Tryz.ntmps143
      go_wp2
      refine wp_scope_fwd 0 rfl ?_
      go_wp2
      go_region
      all_goals
        go_wp2
        simp only [Exit.jump]
        go_ret
        exact HT.out
    · rw [if_neg hcn] at HT
      go_enter Tryz.func143, Tryz.ntmps143
      go_wp2
      refine wp_scope_fwd 0 rfl ?_
      go_wp2
      go_region
      all_goals
        go_wp2
        simp only [Exit.jump]
        go_ret
        exact HT.out
  · rw [takeP_bad _ _ hok]
    have c1' : (w.setCell ⟨g, 1, none⟩ (.bool true)).cell? ⟨g, 1, none⟩ = some (.bool true) := World.cell?_setCell_same _ _ _ c1
    have HT : ∀ w', RB w' w'.heap.size (some ⟨w.heap.size, 0, none⟩) (List.replicate n 0) → (w.setCell ⟨g, 1, none⟩ (.bool true)).grownBy w' none → Took w B g n (List.replicate n 0, (xs, true)) (.returned (.slice (some ⟨w.heap.size, 0, none⟩) n n)) w' := by
      intro w' h1 h2
      refine took_bad (A := A) (by simp [World.setCell]) hc ?_ c1' ?_ ?_ ?_ hB ?_ (grown_setCell w g 1 _) h1 h2
      · rw [World.cell?_setCell_other _ _ _ _ (by simp)]; exact c0
      · simpa using f0
      · simpa using f1
      · exact hr.only ((Only.refl g w).set 1 _) hB
      · simpa [World.setCell] using hg
    have HT' := Lib.hid HT
    clear HT c1' hr
    have hh : bad = true ∨ (bad = false ∧ (xs.length : Int) < (n : Int)) := by
      cases bad
      · exact Or.inr ⟨rfl, by have : ¬ n ≤ xs.length := fun h => hok ⟨rfl, h⟩
                              omega⟩
      · exact Or.inl rfl
    clear hok
    rcases hh with rfl | ⟨rfl, hlt⟩
    all_goals
      go_enter Tryz.func143, Tryz.ntmps143
      go_wp2
      refine wp_scope_fwd 0 rfl ?_
      go_wp2
      go_step3
      refine ⟨rfl, ?_⟩
      go_wp2_with (apply wpList_make_bytes rfl _ _ 31 5 rfl Tryz.underlying31 info_u8 n ?_ ?_ hn' ?_; exact rfl; exact rfl; intro w2 hr2 hg2)
      simp only [Exit.jump]
      go_ret
      rw [size_setCell'] at hr2
      exact HT'.out w2 hr2 hg2

end Go.Proofs.YtlacidnnankjlaaGreatDoor

/-
  Package pack's reader: one, two, text, more.
-/
namespace Go.Proofs.YtlacidnnankjlaaGreatDoor
open Go.RowKit

/-- what reading leaves: the answer, the reader. -/
def Rdd (w : World) (B g : Nat) (v : Value) (s : Rd) (e : Ending) (w' : World) : Prop := e = .returned v ∧ RdAt w' B g s ∧ w.grownBy w' (some g)

theorem headD_of {xs : List UInt8} {x : UInt8} (h : xs[0]? = some x) : xs.headD 0 = x := by
  cases xs with
  | nil => cases h
  | cons y ys => simpa using h

set_option maxHeartbeats 800000 in
set_option maxRecDepth 100000 in
theorem packOne (B g : Nat) (s : Rd) (w : World) (h : RdAt w B g s) :
    Calls Tryz.prog 140 #[.pointer (some ⟨g, 0, none⟩)] w (Rdd w B g (.int .i64 ((oneP s).1.toNat : Int)) (oneP s).2) := by
  have K := Lib.hid (packTake B g s 1 1 rfl (by omega) w h)
  clear h
  unfold oneP
  generalize takeP s 1 = r at *
  obtain ⟨V, hV⟩ : ∃ V, r.1.headD 0 = V := ⟨_, rfl⟩
  rw [hV]
  have HV := Lib.hid hV
  clear hV
  go_enter Tryz.func140, Tryz.ntmps140
  go_wp2_with fail
  (with_reducible refine K.out.mono ?_)
  rintro _ w1 ⟨A, c, rfl, hc, hl, hr, hR, hg⟩
  obtain ⟨b, o, x, rfl, _, hx, cx⟩ := hr.get (k := 0) (by omega)
  rw [Nat.add_zero] at cx
  obtain rfl : x = V := (headD_of hx).symm.trans HV.out
  have hub : (x.toNat : Int) < 256 := by have := x.toNat_lt; omega
  have HR := Lib.hid hR
  clear hl hr hx hR K HV
  go_wp2
  go_ret
  exact ⟨rfl, HR.out, hg⟩

set_option maxHeartbeats 800000 in
set_option maxRecDepth 100000 in
theorem packTwoR (B g : Nat) (s : Rd) (w : World) (h : RdAt w B g s) :
    Calls Tryz.prog 142 #[.pointer (some ⟨g, 0, none⟩)] w (Rdd w B g (.int .i64 ((twoP s).1 : Int)) (twoP s).2) := by
  have K := Lib.hid (packOne B g s w h)
  clear h
  have HO := Lib.hid (or_shl (oneP s).1.toNat (oneP (oneP s).2).1 (by have := (oneP s).1.toNat_lt; omega))
  have K2 := Lib.hid (fun w1 h1 => packOne B g (oneP s).2 w1 h1)
  have e2 : twoP s = ((oneP s).1.toNat * 256 + (oneP (oneP s).2).1.toNat, (oneP (oneP s).2).2) := rfl
  rw [e2]
  clear e2
  have h1 := (oneP s).1.toNat_lt
  have h2 := (oneP (oneP s).2).1.toNat_lt
  generalize (oneP s).2 = s1 at *
  generalize (oneP s).1.toNat = x1 at *
  generalize hx2 : (oneP s1).1 = x2 at *
  generalize (oneP s1).2 = s2 at *
  clear hx2
  have i1 : (x1 : Int) ≤ 255 := by omega
  go_enter Tryz.func142, Tryz.ntmps142
  go_wp2_with fail
  (with_reducible refine K.out.mono ?_)
  rintro _ w1 ⟨rfl, hR, hg⟩
  go_wp2_with fail
  (with_reducible refine (K2.out w1 hR).mono ?_)
  rintro _ w2 ⟨rfl, hR2, hg2⟩
  clear K K2 hR
  go_wp2
  go_ret
  exact ⟨by rw [HO.out]; rfl, hR2, hg.trans hg2⟩

theorem RB.bytes_of {w : World} {B : Nat} {ad : Addr} {xs : List UInt8} (h : RB w B (some ad) xs) : ∀ j (hj : j < xs.length), w.cell? (ad.add j) = some (.int .u8 (xs[j].toNat : Int)) := by
  intro j hj
  obtain ⟨ad', x, e, _, hx, hc⟩ := h.at_ hj
  injection e with e
  subst e
  rw [hc, List.getElem?_eq_getElem hj] at *
  injection hx with hx
  rw [hx]
/-- string(b) of what is read. -/
theorem run_string_of {P : Program} {w : World} {src dst e : TypeId} (hs : P.underlying src = some (.slice e)) (he : P.underlying e = some (.int .u8)) (hd : P.underlying dst = some .string) {B : Nat} {A : Option Addr} {xs : List UInt8} (h : RB w B A xs) {n : Nat} (hn : xs.length = n) (c : Nat) :
    (convert src dst (.slice A n c)).run P w = .ok (.string (mkS xs)) w := by
  subst hn
  cases A with
  | none =>
    have h0 : xs = [] := by
      rcases Nat.eq_zero_or_pos xs.length with h0 | h0
      · exact List.eq_nil_of_length_eq_zero h0
      · obtain ⟨_, e, _⟩ := h.2 h0; cases e
    subst h0
    exact Lib.run_convert_nil_bytes w src dst e c hs he hd
  | some ad => exact run_convert_bytes_back w src dst e ad c xs hs he hd h.bytes_of

theorem twoP_lt (s : Rd) : (twoP s).1 < 65536 := by
  have h1 := (oneP s).1.toNat_lt
  have h2 := (oneP (oneP s).2).1.toNat_lt
  show (oneP s).1.toNat * 256 + (oneP (oneP s).2).1.toNat < 65536
  omega

set_option maxHeartbeats 800000 in
set_option maxRecDepth 100000 in
theorem packTextR (B g : Nat) (s : Rd) (w : World) (h : RdAt w B g s) :
    Calls Tryz.prog 141 #[.pointer (some ⟨g, 0, none⟩)] w (Rdd w B g (.string (textP s).1) (textP s).2) := by
  have K := Lib.hid (packTwoR B g s w h)
  clear h
  have K2 := Lib.hid (fun w1 h1 => packTake B g (twoP s).2 (twoP s).1 ((twoP s).1 : Int) rfl (by have := twoP_lt s; omega) w1 h1)
  unfold textP
  generalize twoP s = t at *
  obtain ⟨n, s1⟩ := t
  generalize takeP s1 n = r at *
  obtain ⟨ys, s2⟩ := r
  go_enter Tryz.func141, Tryz.ntmps141
  go_wp2_with fail
  (with_reducible refine K.out.mono ?_)
  rintro _ w1 ⟨rfl, hR, hg⟩
  go_wp2_with fail
  (with_reducible refine (K2.out w1 hR).mono ?_)
  rintro _ w2 ⟨A, c, rfl, hc, hl, hr, hR2, hg2⟩
  have hrun := run_string_of (P := Tryz.prog) (src := 31) (dst := 9) (e := 5) Tryz.underlying31 Tryz.underlying5 Tryz.underlying9 hr hl c
  clear K K2 hR hr hl
  go_wp2
  go_ret
  exact ⟨rfl, hR2, hg.trans hg2⟩

set_option maxHeartbeats 800000 in
set_option maxRecDepth 100000 in
theorem packMore (B g : Nat) (s : Rd) (w : World) (h : RdAt w B g s) :
    Calls Tryz.prog 164 #[.pointer (some ⟨g, 0, none⟩)] w fun e w' => e = .returned (.bool (!s.2 && decide (0 < s.1.length))) ∧ w = w' := by
  obtain ⟨xs, bad⟩ := s
  obtain ⟨A, c, hc, c0, c1, f0, f1, hr, hB, hg⟩ := h
  dsimp only at hc c0 c1 hr
  clear hr f0 f1
  cases bad with
  | true =>
    go_enter Tryz.func164, Tryz.ntmps164
    go_wp2
    go_ret
    exact ⟨rfl, rfl⟩
  | false =>
    by_cases h0 : 0 < xs.length
    · have e1 : (0 : Int) < (xs.length : Int) := by omega
      have HD := Lib.hid (decide_eq_true h0)
      clear h0
      go_enter Tryz.func164, Tryz.ntmps164
      go_wp2
      go_ret
      exact ⟨by rw [HD.out]; rfl, rfl⟩
    · have e1 : ¬ (0 : Int) < (xs.length : Int) := by omega
      have HD := Lib.hid (decide_eq_false h0)
      clear h0
      go_enter Tryz.func164, Tryz.ntmps164
      go_wp2
      go_ret
      exact ⟨by rw [HD.out]; rfl, rfl⟩

end Go.Proofs.YtlacidnnankjlaaGreatDoor

/-
  The page's reader: take, num, text.
-/
namespace Go.Proofs.YtlacidnnankjlaaGreatDoor
open Go.RowKit

end Go.Proofs.YtlacidnnankjlaaGreatDoor

/-
  A packet's 24 cells in memory; what is kept of them.
-/
namespace Go.Proofs.YtlacidnnankjlaaGreatDoor
open Go.RowKit

/-- a packet's cells, its three lists given as values. -/
abbrev mqCells (m : Mq) (vc vw vf : Value) : List Value :=
  [.int .i64 m.kind, .string m.client, .bool m.clean, .int .i64 m.keep, .bool m.won, .string m.wt, .string m.wp, .int .i64 m.wq, .bool m.wr, .string m.user, .bool m.hu, .string m.pass,
   .bool m.hp, .bool m.present, .int .i64 m.code, vc, .bool m.dup, .int .i64 m.qos, .bool m.retain, .string m.topic, .int .i64 m.id, .string m.payload, vw, vf]
theorem RdAt.store {w : World} {B g : Nat} {s : Rd} (h : RdAt w B g s) {a : Addr} (ha : B ≤ a.block) (hne : a.block ≠ g) (v : Value) : RdAt (w.setCell a v) B g s := by
  obtain ⟨A, c, hc, c0, c1, f0, f1, hr, hB, hg⟩ := h
  refine ⟨A, c, hc, ?_, ?_, ?_, ?_, ?_, hB, ?_⟩
  · rw [World.cell?_setCell_other _ _ _ _ (by intro e; exact hne (by rw [e]))]; exact c0
  · rw [World.cell?_setCell_other _ _ _ _ (by intro e; exact hne (by rw [e]))]; exact c1
  · simpa using f0
  · simpa using f1
  · exact hr.keep fun p hp => World.cell?_setCell_other _ _ _ _ (by intro e; rw [← e] at hp; omega)
  · rw [size_setCell']; exact hg
/-! one bit of a byte -/
theorem bits_and_u8 (f : UInt8) (n : Nat) (hn : n < 256) : bits .and .i64 (f.toNat : Int) (n : Int) = ((f.toNat &&& n : Nat) : Int) := by
  have := f.toNat_lt
  exact i64_and_nat f.toNat n (by omega) (by omega)
theorem bitB_iff (f : UInt8) (n : Nat) (hn : n < 256) : bitB f (UInt8.ofNat n) = (bits .and .i64 (f.toNat : Int) (n : Int) != 0) := by
  rw [bits_and_u8 f n hn]
  unfold bitB
  have e : (f &&& UInt8.ofNat n).toNat = f.toNat &&& n := by
    rw [UInt8.toNat_and, UInt8.toNat_ofNat', Nat.mod_eq_of_lt (by omega)]
  by_cases h : f &&& UInt8.ofNat n = 0
  · have e2 : f.toNat &&& n = 0 := by rw [← e, h]; rfl
    rw [h, e2]; rfl
  · have e2 : ¬ f.toNat &&& n = 0 := by
      intro h2; rw [← e] at h2; exact h (UInt8.toNat_inj.1 (by rw [h2]; rfl))
    have a1 : (f &&& UInt8.ofNat n != 0) = true := by simpa using h
    have a2 : (((f.toNat &&& n : Nat) : Int) != 0) = true := by
      rw [bne_iff_ne]; omega
    rw [a1, a2]

end Go.Proofs.YtlacidnnankjlaaGreatDoor

/-
  Rows of whatever cells; what reading leaves (words).
-/
namespace Go.Proofs.YtlacidnnankjlaaGreatDoor
open Go.RowKit

theorem info_int : (Tryz.prog.info? 3).map (fun i => (i.zero, i.size, i.bytes)) = some (some (.int .i64 0), 1, 8) := by kernel_rfl
theorem info_string : (Tryz.prog.info? 9).map (fun i => (i.zero, i.size, i.bytes)) = some (some (.string ⟨#[]⟩), 1, 16) := by kernel_rfl
theorem info_wish : (Tryz.prog.info? 161).map (fun i => (i.zero, i.size, i.bytes)) = some (some (.agg #[.string ⟨#[]⟩, .int .i64 0]), 2, 24) := by kernel_rfl

/-- good reading makes what is left less. -/
theorem takeP_good (s : Rd) (n : Nat) (h : (takeP s n).2.2 = false) : s.2 = false ∧ (takeP s n).2.1.length + n = s.1.length := by
  unfold takeP at h ⊢
  split
  · rename_i h1
    rw [if_pos h1] at h
    exact ⟨h1.1, by simp; omega⟩
  · rename_i h1
    rw [if_neg h1] at h
    cases h
theorem oneP_good (s : Rd) (h : (oneP s).2.2 = false) : s.2 = false ∧ (oneP s).2.1.length + 1 = s.1.length := takeP_good s 1 h
theorem twoP_good (s : Rd) (h : (twoP s).2.2 = false) : s.2 = false ∧ (twoP s).2.1.length + 2 = s.1.length := by
  obtain ⟨a, b⟩ := oneP_good (oneP s).2 h
  obtain ⟨c, d⟩ := oneP_good s a
  have : (twoP s).2.1 = (oneP (oneP s).2).2.1 := rfl
  rw [this]
  exact ⟨c, by omega⟩
theorem textP_good (s : Rd) (h : (textP s).2.2 = false) : s.2 = false ∧ (textP s).2.1.length + 2 ≤ s.1.length := by
  obtain ⟨a, b⟩ := takeP_good (twoP s).2 (twoP s).1 h
  obtain ⟨c, d⟩ := twoP_good s a
  have : (textP s).2.1 = (takeP (twoP s).2 (twoP s).1).2.1 := rfl
  rw [this]
  exact ⟨c, by omega⟩

theorem RdAt.drew {w : World} {B g : Nat} {s : Rd} (h : RdAt w B g s) : RdAt w.drew B g s := h
theorem RdAt.row_of {w w' : World} {B g : Nat} {s : Rd} {base : Nat} {e : TypeId} {size n : Nat} {v : Value} {xs : List Value} (h : RdAt w B g s) (hO : w.ownsRow base e size v n xs) (hg : g < base) (o : Obj) (h3 : (w.alloc o).grownBy w' v.ownBlock) : RdAt w' B g s := by
  have hB : B ≤ g := by obtain ⟨_, _, _, _, _, _, _, _, h, _⟩ := h; exact h
  have h1 : RdAt (w.alloc o) B g s := h.kept (World.grownBy_alloc w o none) (by simp) (by simp)
  exact h1.kept h3 (fun k hk => by have := (hO.lt k hk).1; omega) (own_ne hO (Or.inl hg))
theorem takeP_le (s : Rd) (n : Nat) : (takeP s n).2.1.length ≤ s.1.length := by
  unfold takeP; split <;> simp
theorem twoP_le (s : Rd) : (twoP s).2.1.length ≤ s.1.length := Nat.le_trans (takeP_le (oneP s).2 1) (takeP_le s 1)

end Go.Proofs.YtlacidnnankjlaaGreatDoor

/-
  pack's checks of lists: codes, filters, wishes.
-/
namespace Go.Proofs.YtlacidnnankjlaaGreatDoor
open Go.RowKit

theorem wv_get (l : List (ByteArray × Int)) (k : Nat) (x : ByteArray × Int) (h : l[k]? = some x) : (wv l)[k * 2 + 0]? = some (.string x.1) ∧ (wv l)[k * 2 + 1]? = some (.int .i64 x.2) := by
  induction l generalizing k with
  | nil => simp at h
  | cons y ys ih =>
    cases k with
    | zero => simp at h; subst h; simp [wv]
    | succ k =>
      have := ih k (by simpa using h)
      rw [show (k + 1) * 2 = k * 2 + 1 + 1 by omega]
      simpa [wv, Nat.add_right_comm] using this
theorem drop_of {α : Type} {l : List α} {k : Nat} {x : α} (h : l[k]? = some x) : l.drop k = x :: l.drop (k + 1) := drop_get' l k x h

set_option maxHeartbeats 800000 in
set_option maxRecDepth 100000 in
theorem packCodes (l : List Int) (n : Nat) (hl : l.length = n) (A : Option Addr) (c : Nat) (hn : n ≤ 140737488351232) (w : World) (hr : Reads w w.heap.size 1 A n (l.map iv)) :
    Calls Tryz.prog 155 #[.slice A n c] w fun e w' => e = .returned (.bool (codesOk l)) ∧ w = w' := by
  have HF := Lib.hid (show codesAll (l.drop 0) = codesAll l from rfl)
  have KW := Lib.hid (fun x w1 => packWithin x 0 2 w1)
  have KE := Lib.hid (fun w1 => packWithin (n : Int) 1 8 w1)
  have HO := Lib.hid (show codesOk l = (codesAll l && inRB n 1 8) by unfold codesOk; rw [hl])
  generalize codesOk l = Z at *
  have HL := Lib.hid hl
  clear hl
  go_enter Tryz.func155, Tryz.ntmps155
  go_wp2
  go_loop [7] (fun i => ∃ k : Nat, i = .int .i64 k ∧ k ≤ n ∧ Hid (codesAll (l.drop k) = codesAll l)) (fun i => n - (intOf i).toNat)
  case atStart => exact ⟨0, rfl, Nat.zero_le _, HF⟩
  case round =>
    obtain ⟨k, rfl, hk, hf⟩ := hrel
    by_cases hlt : k < n
    · obtain ⟨b, o, v, rfl, _, hv, cv⟩ := hr.get1 hlt
      rw [List.getElem?_map] at hv
      obtain ⟨x, hx, rfl⟩ := Option.map_eq_some_iff.1 hv
      have hd := drop_of hx
      have hf2 := hf.out
      rw [hd, codesAll] at hf2
      cases h1 : inRB x 0 2 with
      | true =>
        have K := Lib.hid (fun w1 => h1 ▸ KW.out x w1)
        have HP : Hid (codesAll (l.drop (k + 1)) = codesAll l) := by rw [h1] at hf2; exact hf2
        clear hv hx hd hf2 hf
        go_wp2_with (go_at_call 151; (with_reducible refine (K.out _).mono ?_); rintro _ w2 ⟨rfl, rfl⟩)
        go_round
        case rel => exact ⟨k + 1, by go_num, by omega, HP⟩
        case measure => simp [intOf]; omega
      | false =>
        have K := Lib.hid (fun w1 => h1 ▸ KW.out x w1)
        by_cases h2 : x = 128
        · subst h2
          have HP : Hid (codesAll (l.drop (k + 1)) = codesAll l) := by rw [h1] at hf2; exact hf2
          clear hv hx hd hf2 hf
          go_wp2_with (go_at_call 151; (with_reducible refine (K.out _).mono ?_); rintro _ w2 ⟨rfl, rfl⟩)
          go_round
          case rel => exact ⟨k + 1, by go_num, by omega, HP⟩
          case measure => simp [intOf]; omega
        · have h3 : (x == 128) = false := by rw [beq_eq_false_iff_ne]; exact h2
          have HP : Hid (codesAll l = false) := by rw [h1, h3] at hf2; exact hf2.symm
          clear hv hx hd hf2 hf h2
          go_wp2_with (go_at_call 151; (with_reducible refine (K.out _).mono ?_); rintro _ w2 ⟨rfl, rfl⟩)
          go_ret
          exact ⟨by rw [HO.out, HP.out]; rfl, rfl⟩
    · have HP : Hid (codesAll l = true) := by
        have := hf.out
        rw [List.drop_eq_nil_of_le (by rw [HL.out]; omega)] at this
        exact this.symm
      clear hf
      go_wp2_with (go_at_call 151; (with_reducible refine (KE.out _).mono ?_); rintro _ w2 ⟨rfl, rfl⟩)
      go_ret
      exact ⟨by rw [HO.out, HP.out]; simp, rfl⟩

/-- texts that are not beyond all memory. -/
abbrev Fits (s : ByteArray) : Prop := s.size ≤ 140737488351232

set_option maxHeartbeats 800000 in
set_option maxRecDepth 100000 in
theorem packFilters (l : List ByteArray) (n : Nat) (hl : l.length = n) (hfit : ∀ s ∈ l, Fits s) (A : Option Addr) (c : Nat) (hn : n ≤ 140737488351232) (w : World) (hT : Wd w) (hr : Reads w w.heap.size 1 A n (l.map sv)) :
    Calls Tryz.prog 156 #[.slice A n c] w fun e w' => e = .returned (.bool (filtersOk l)) ∧ Below w.heap.size w w' := by
  have HF := Lib.hid (show filtersAll (l.drop 0) = filtersAll l from rfl)
  have KE := Lib.hid (fun w1 => packWithin (n : Int) 1 8 w1)
  have HO := Lib.hid (show filtersOk l = (filtersAll l && inRB n 1 8) by unfold filtersOk; rw [hl])
  generalize filtersOk l = Z at *
  have HL := Lib.hid hl
  have HFit := Lib.hid hfit
  have HR := Lib.hid hr
  have HT := Lib.hid hT
  clear hl hfit hr hT
  go_enter Tryz.func156, Tryz.ntmps156
  go_wp2
  go_loopw [7] (fun i wr => ∃ k : Nat, i = .int .i64 k ∧ k ≤ n ∧ Below w.heap.size w wr ∧ Hid (filtersAll (l.drop k) = filtersAll l)) (fun i _ => n - (intOf i).toNat)
  case atStart => exact ⟨0, rfl, Nat.zero_le _, Below.refl _ _, HF⟩
  case round =>
    obtain ⟨k, rfl, hk, hb, hf⟩ := hrel
    by_cases hlt : k < n
    · obtain ⟨b, o, v, rfl, _, hv, cv⟩ := (HR.out.below hb).get1 hlt
      rw [List.getElem?_map] at hv
      obtain ⟨x, hx, rfl⟩ := Option.map_eq_some_iff.1 hv
      have hd := drop_of hx
      have hf2 := hf.out
      rw [hd, filtersAll] at hf2
      have K := Lib.hid (packTextV x (HFit.out x (List.mem_of_getElem? hx)) 1 64 wr (HT.out.below hb))
      have HB := Lib.hid hb
      cases h1 : textOk x 1 64 with
      | true =>
        rw [h1] at K
        have HP : Hid (filtersAll (l.drop (k + 1)) = filtersAll l) := by rw [h1] at hf2; exact hf2
        clear hv hx hd hf2 hf hb h1
        go_wp2_with (go_at_call 165; (with_reducible refine K.out.mono ?_); rintro _ w2 ⟨rfl, hb2⟩; have HB2 := Lib.hid (HB.out.trans (hb2.mono HB.out.size)); clear hb2)
        go_roundw
        case rel => exact ⟨k + 1, by go_num, by omega, HB2.out, HP⟩
        case measure => simp [intOf]; omega
      | false =>
        rw [h1] at K
        have HP : Hid (filtersAll l = false) := by rw [h1] at hf2; exact hf2.symm
        clear hv hx hd hf2 hf hb h1
        go_wp2_with (go_at_call 165; (with_reducible refine K.out.mono ?_); rintro _ w2 ⟨rfl, hb2⟩; have HB2 := Lib.hid (HB.out.trans (hb2.mono HB.out.size)); clear hb2)
        go_ret
        exact ⟨by rw [HO.out, HP.out]; rfl, HB2.out⟩
    · have HP : Hid (filtersAll l = true) := by
        have := hf.out
        rw [List.drop_eq_nil_of_le (by rw [HL.out]; omega)] at this
        exact this.symm
      clear hf
      go_wp2_with (go_at_call 151; (with_reducible refine (KE.out _).mono ?_); rintro _ w2 ⟨rfl, rfl⟩)
      go_ret
      exact ⟨by rw [HO.out, HP.out]; simp, hb⟩

set_option maxHeartbeats 1600000 in
set_option maxRecDepth 100000 in
theorem packWishes (l : List (ByteArray × Int)) (n : Nat) (hl : l.length = n) (hfit : ∀ s ∈ l, Fits s.1) (A : Option Addr) (c : Nat) (hn : n ≤ 140737488351232) (w : World) (hT : Wd w) (hr : Reads w w.heap.size 2 A n (wv l)) :
    Calls Tryz.prog 154 #[.slice A n c] w fun e w' => e = .returned (.bool (wishesOk l)) ∧ Below w.heap.size w w' := by
  have HF := Lib.hid (show wishesAll (l.drop 0) = wishesAll l from rfl)
  have KW := Lib.hid (fun x w1 => packWithin x 0 2 w1)
  have KE := Lib.hid (fun w1 => packWithin (n : Int) 1 8 w1)
  have HO := Lib.hid (show wishesOk l = (wishesAll l && inRB n 1 8) by unfold wishesOk; rw [hl])
  generalize wishesOk l = Z at *
  have HL := Lib.hid hl
  have HFit := Lib.hid hfit
  have HR := Lib.hid hr
  have HT := Lib.hid hT
  clear hl hfit hr hT
  go_enter Tryz.func154, Tryz.ntmps154
  go_wp2
  go_loopw [7] (fun i wr => ∃ k : Nat, i = .int .i64 k ∧ k ≤ n ∧ Below w.heap.size w wr ∧ Hid (wishesAll (l.drop k) = wishesAll l)) (fun i _ => n - (intOf i).toNat)
  case atStart => exact ⟨0, rfl, Nat.zero_le _, Below.refl _ _, HF⟩
  case round =>
    obtain ⟨k, rfl, hk, hb, hf⟩ := hrel
    by_cases hlt : k < n
    · obtain ⟨b, o, rfl, _, hcv⟩ := (HR.out.below hb).get2 hlt
      obtain ⟨x, hx⟩ : ∃ x, l[k]? = some x := ⟨l[k]'(by rw [HL.out]; omega), List.getElem?_eq_getElem _⟩
      obtain ⟨g0, g1⟩ := wv_get l k x hx
      have cv0 := hcv 0 _ (by omega) g0
      have cv1 := hcv 1 _ (by omega) g1
      rw [Nat.add_zero] at cv0
      have hd := drop_of hx
      have hf2 := hf.out
      rw [hd, wishesAll] at hf2
      have hba := balloc wr (.cells #[.string x.1, .int .i64 x.2] 161)
      have HB := Lib.hid (hb.trans (hba.mono hb.size))
      have K := Lib.hid (packTextV x.1 (HFit.out x (List.mem_of_getElem? hx)) 1 64 _ (HT.out.below HB.out))
      have hlt2 : wr.heap.size < (wr.alloc (.cells #[.string x.1, .int .i64 x.2] 161)).heap.size := lt_alloc _ _
      have K2 := Lib.hid (fun w1 => KW.out x.2 w1)
      cases h1 : textOk x.1 1 64 with
      | true =>
        rw [h1] at K hf2
        cases h2 : inRB x.2 0 2 with
        | true =>
          rw [h2] at K2 hf2
          have HP : Hid (wishesAll (l.drop (k + 1)) = wishesAll l) := hf2
          clear hx hd hf2 hf hb h1 h2 g0 g1 hcv hba
          go_wp2_with (first
            | (go_at_call 165; (with_reducible refine K.out.mono ?_); rintro _ w2 ⟨rfl, hb2⟩; have HB2 := Lib.hid (HB.out.trans (hb2.mono HB.out.size)); have c1 : w2.cell? ⟨wr.heap.size, 1, none⟩ = some (.int .i64 x.2) := (by rw [cellB hb2 hlt2]; simp); clear hb2)
            | (go_at_call 151; (with_reducible refine (K2.out _).mono ?_); rintro _ w3 ⟨rfl, rfl⟩))
          go_roundw
          case rel => exact ⟨k + 1, by go_num, by omega, HB2.out, HP⟩
          case measure => simp [intOf]; omega
        | false =>
          rw [h2] at K2 hf2
          have HP : Hid (wishesAll l = false) := hf2.symm
          clear hx hd hf2 hf hb h1 h2 g0 g1 hcv hba
          go_wp2_with (first
            | (go_at_call 165; (with_reducible refine K.out.mono ?_); rintro _ w2 ⟨rfl, hb2⟩; have HB2 := Lib.hid (HB.out.trans (hb2.mono HB.out.size)); have c1 : w2.cell? ⟨wr.heap.size, 1, none⟩ = some (.int .i64 x.2) := (by rw [cellB hb2 hlt2]; simp); clear hb2)
            | (go_at_call 151; (with_reducible refine (K2.out _).mono ?_); rintro _ w3 ⟨rfl, rfl⟩))
          go_ret
          exact ⟨by rw [HO.out, HP.out]; rfl, HB2.out⟩
      | false =>
        rw [h1] at K hf2
        have HP : Hid (wishesAll l = false) := hf2.symm
        clear hx hd hf2 hf hb h1 g0 g1 hcv hba
        go_wp2_with (go_at_call 165; (with_reducible refine K.out.mono ?_); rintro _ w2 ⟨rfl, hb2⟩; have HB2 := Lib.hid (HB.out.trans (hb2.mono HB.out.size)); clear hb2)
        go_ret
        exact ⟨by rw [HO.out, HP.out]; rfl, HB2.out⟩
    · have HP : Hid (wishesAll l = true) := by
        have := hf.out
        rw [List.drop_eq_nil_of_le (by rw [HL.out]; omega)] at this
        exact this.symm
      clear hf
      go_wp2_with (go_at_call 151; (with_reducible refine (KE.out _).mono ?_); rintro _ w2 ⟨rfl, rfl⟩)
      go_ret
      exact ⟨by rw [HO.out, HP.out]; simp, hb⟩

end Go.Proofs.YtlacidnnankjlaaGreatDoor

/-
  Comparisons of lists: slices.Equal and the page's own, at numbers, texts, wishes.
-/
namespace Go.Proofs.YtlacidnnankjlaaGreatDoor
open Go.RowKit

def eqG {α : Type} [DecidableEq α] (xs ys : List α) : Bool := decide (xs = ys)
theorem eqG_same {α : Type} [DecidableEq α] (xs : List α) : eqG xs xs = true := by simp [eqG]
theorem eqG_false {α : Type} [DecidableEq α] {xs ys : List α} (h : xs ≠ ys) : eqG xs ys = false := by simpa [eqG] using h
theorem takeG_all {α : Type} {xs ys : List α} {k : Nat} (hk : k = xs.length) (hl : xs.length = ys.length) (h : xs.take k = ys.take k) : xs = ys := by
  subst hk
  rw [List.take_length] at h
  rw [hl, List.take_length] at h
  exact h
theorem takeG_next {α : Type} {xs ys : List α} {k : Nat} {x y : α} (hx : xs[k]? = some x) (hy : ys[k]? = some y) (h : xs.take k = ys.take k) (e : x = y) : xs.take (k + 1) = ys.take (k + 1) := by
  rw [take_snoc? xs k x hx, take_snoc? ys k y hy, h, e]
theorem neG_of {α : Type} {xs ys : List α} {k : Nat} {x y : α} (hx : xs[k]? = some x) (hy : ys[k]? = some y) (e : x ≠ y) : xs ≠ ys := by
  rintro rfl
  rw [hx] at hy
  exact e (by simpa using hy)
theorem str_ne {u v : ByteArray} (h : ¬ u = v) : (u.toList == v.toList) = false := by
  rw [beq_eq_false_iff_ne, Lib.toList_data, Lib.toList_data]
  intro e
  exact h (ByteArray.ext (Array.toList_inj.1 e))
theorem drewN_below {B : Nat} {w0 w : World} (h : Below B w0 w) (n : Nat) : Below B w0 (w.drewN n) := below_drewN h n

set_option maxHeartbeats 1600000 in
set_option maxRecDepth 100000 in
theorem slInts (xs ys : List (Int)) (A B : Option Addr) (c d : Nat) (w : World) (hx : Reads w w.heap.size 1 A xs.length (xs.map iv)) (hy : Reads w w.heap.size 1 B ys.length (ys.map iv)) (hn : xs.length ≤ 140737488351232) :
    Calls Tryz.prog 157 #[.slice A xs.length c, .slice B ys.length d] w fun e w' => e = .returned (.bool (eqG xs ys)) ∧ Below w.heap.size w w' := by
  by_cases hl : xs.length = ys.length
  · have hne : (((xs.length : Int)) != ((ys.length : Nat) : Int)) = false := by simp [hl]
    have hl' := Lib.hid hl
    have hlt2 : ∀ k, k < xs.length → k < ys.length := by rw [hl]; exact fun _ h => h
    clear hl
    go_enter Tryz.func157, Tryz.ntmps157
    go_wp2
    go_loopw [13] (fun i wr => ∃ k n : Nat, k ≤ xs.length ∧ i = .int .i64 k ∧ wr = w.drewN n ∧ Hid (xs.take k = ys.take k)) (fun i _ => xs.length - (intOf i).toNat)
    case atStart => exact ⟨0, 0, Nat.zero_le _, rfl, rfl, rfl⟩
    case round =>
      obtain ⟨k, n, hk, rfl, rfl, ht⟩ := hrel
      by_cases hlt : k < xs.length
      · have hlty := hlt2 k hlt
        obtain ⟨b, o, uu, rfl, _, hu, cu0⟩ := hx.get1 (w := w) hlt
        obtain ⟨b2, o2, vv, rfl, _, hv, cv0⟩ := hy.get1 (w := w) hlty
        rw [List.getElem?_map] at hu hv
        obtain ⟨u, hu2, rfl⟩ := Option.map_eq_some_iff.1 hu
        obtain ⟨v, hv2, rfl⟩ := Option.map_eq_some_iff.1 hv
        clear hu hv
        have hu := hu2
        have hv := hv2
        clear hu2 hv2
        clear hlt2
        have hu' := Lib.hid hu
        have hv' := Lib.hid hv
        have hi : (k : Int) < (xs.length : Int) := by omega
        have hi2 : (k : Int) < (ys.length : Int) := by omega
        clear hu hv
        by_cases he : u = v
        · have HT : Hid (xs.take (k + 1) = ys.take (k + 1)) := takeG_next hu'.out hv'.out ht.out he
          have hne2 : (u != v) = false := by simp [he]
          go_wp2_with fail
          go_quiet (fail)
          go_wp2
          go_roundw
          case rel => exact ⟨k + 1, _, by omega, by go_num, rfl, HT⟩
          case measure => simp [intOf]; omega
        · have HT : Hid (eqG xs ys = false) := eqG_false (neG_of hu'.out hv'.out he)
          have hne2 : (u != v) = true := by simpa using he
          go_wp2_with fail
          go_quiet (fail)
          go_wp2
          go_ret
          exact ⟨by rw [HT.out]; rfl, drewN_below (drewN_below (Below.refl _ _) _) _⟩
      · have HT : Hid (eqG xs ys = true) := by rw [takeG_all (by omega) hl'.out ht.out]; exact eqG_same _
        go_wp2
        go_ret
        exact ⟨by rw [HT.out]; rfl, drewN_below (Below.refl _ _) _⟩
  · have hne : (((xs.length : Int)) != ((ys.length : Nat) : Int)) = true := by
      simp only [bne_iff_ne, ne_eq, Int.natCast_inj]; exact hl
    have HT : Hid (eqG xs ys = false) := eqG_false (fun h => hl (by rw [h]))
    clear hl
    go_enter Tryz.func157, Tryz.ntmps157
    go_wp2
    go_ret
    exact ⟨by rw [HT.out]; rfl, Below.refl _ _⟩

set_option maxHeartbeats 1600000 in
set_option maxRecDepth 100000 in
theorem slStrs (xs ys : List (ByteArray)) (A B : Option Addr) (c d : Nat) (w : World) (hx : Reads w w.heap.size 1 A xs.length (xs.map sv)) (hy : Reads w w.heap.size 1 B ys.length (ys.map sv)) (hn : xs.length ≤ 140737488351232) :
    Calls Tryz.prog 159 #[.slice A xs.length c, .slice B ys.length d] w fun e w' => e = .returned (.bool (eqG xs ys)) ∧ Below w.heap.size w w' := by
  by_cases hl : xs.length = ys.length
  · have hne : (((xs.length : Int)) != ((ys.length : Nat) : Int)) = false := by simp [hl]
    have hl' := Lib.hid hl
    have hlt2 : ∀ k, k < xs.length → k < ys.length := by rw [hl]; exact fun _ h => h
    clear hl
    go_enter Tryz.func159, Tryz.ntmps159
    go_wp2
    go_loopw [13] (fun i wr => ∃ k n : Nat, k ≤ xs.length ∧ i = .int .i64 k ∧ wr = w.drewN n ∧ Hid (xs.take k = ys.take k)) (fun i _ => xs.length - (intOf i).toNat)
    case atStart => exact ⟨0, 0, Nat.zero_le _, rfl, rfl, rfl⟩
    case round =>
      obtain ⟨k, n, hk, rfl, rfl, ht⟩ := hrel
      by_cases hlt : k < xs.length
      · have hlty := hlt2 k hlt
        obtain ⟨b, o, uu, rfl, _, hu, cu0⟩ := hx.get1 (w := w) hlt
        obtain ⟨b2, o2, vv, rfl, _, hv, cv0⟩ := hy.get1 (w := w) hlty
        rw [List.getElem?_map] at hu hv
        obtain ⟨u, hu2, rfl⟩ := Option.map_eq_some_iff.1 hu
        obtain ⟨v, hv2, rfl⟩ := Option.map_eq_some_iff.1 hv
        clear hu hv
        have hu := hu2
        have hv := hv2
        clear hu2 hv2
        clear hlt2
        have hu' := Lib.hid hu
        have hv' := Lib.hid hv
        have hi : (k : Int) < (xs.length : Int) := by omega
        have hi2 : (k : Int) < (ys.length : Int) := by omega
        clear hu hv
        by_cases he : u = v
        · have HT : Hid (xs.take (k + 1) = ys.take (k + 1)) := takeG_next hu'.out hv'.out ht.out he
          subst he
          go_wp2_with fail
          go_quiet (fail)
          go_wp2
          go_roundw
          case rel => exact ⟨k + 1, _, by omega, by go_num, rfl, HT⟩
          case measure => simp [intOf]; omega
        · have HT : Hid (eqG xs ys = false) := eqG_false (neG_of hu'.out hv'.out he)
          have hne2 := str_ne he
          go_wp2_with fail
          go_quiet (fail)
          go_wp2
          go_ret
          exact ⟨by rw [HT.out]; rfl, drewN_below (drewN_below (Below.refl _ _) _) _⟩
      · have HT : Hid (eqG xs ys = true) := by rw [takeG_all (by omega) hl'.out ht.out]; exact eqG_same _
        go_wp2
        go_ret
        exact ⟨by rw [HT.out]; rfl, drewN_below (Below.refl _ _) _⟩
  · have hne : (((xs.length : Int)) != ((ys.length : Nat) : Int)) = true := by
      simp only [bne_iff_ne, ne_eq, Int.natCast_inj]; exact hl
    have HT : Hid (eqG xs ys = false) := eqG_false (fun h => hl (by rw [h]))
    clear hl
    go_enter Tryz.func159, Tryz.ntmps159
    go_wp2
    go_ret
    exact ⟨by rw [HT.out]; rfl, Below.refl _ _⟩

set_option maxHeartbeats 1600000 in
set_option maxRecDepth 100000 in
theorem slWishes (xs ys : List (ByteArray × Int)) (A B : Option Addr) (c d : Nat) (w : World) (hx : Reads w w.heap.size 2 A xs.length (wv xs)) (hy : Reads w w.heap.size 2 B ys.length (wv ys)) (hn : xs.length ≤ 140737488351232) :
    Calls Tryz.prog 158 #[.slice A xs.length c, .slice B ys.length d] w fun e w' => e = .returned (.bool (eqG xs ys)) ∧ Below w.heap.size w w' := by
  by_cases hl : xs.length = ys.length
  · have hne : (((xs.length : Int)) != ((ys.length : Nat) : Int)) = false := by simp [hl]
    have hl' := Lib.hid hl
    have hlt2 : ∀ k, k < xs.length → k < ys.length := by rw [hl]; exact fun _ h => h
    clear hl
    go_enter Tryz.func158, Tryz.ntmps158
    go_wp2
    go_loopw [13] (fun i wr => ∃ k n : Nat, k ≤ xs.length ∧ i = .int .i64 k ∧ wr = w.drewN n ∧ Hid (xs.take k = ys.take k)) (fun i _ => xs.length - (intOf i).toNat)
    case atStart => exact ⟨0, 0, Nat.zero_le _, rfl, rfl, rfl⟩
    case round =>
      obtain ⟨k, n, hk, rfl, rfl, ht⟩ := hrel
      by_cases hlt : k < xs.length
      · have hlty := hlt2 k hlt
        obtain ⟨b, o, rfl, _, hcv⟩ := hx.get2 (w := w) hlt
        obtain ⟨b2, o2, rfl, _, hcv2⟩ := hy.get2 (w := w) hlty
        obtain ⟨u, hu⟩ : ∃ u, xs[k]? = some u := ⟨xs[k]'hlt, List.getElem?_eq_getElem _⟩
        obtain ⟨v, hv⟩ : ∃ v, ys[k]? = some v := ⟨ys[k]'hlty, List.getElem?_eq_getElem _⟩
        obtain ⟨g0, g1⟩ := wv_get xs k u hu
        obtain ⟨p0, p1⟩ := wv_get ys k v hv
        have cu0 := hcv 0 _ (by omega) g0
        have cu1 := hcv 1 _ (by omega) g1
        have cv0 := hcv2 0 _ (by omega) p0
        have cv1 := hcv2 1 _ (by omega) p1
        rw [Nat.add_zero] at cu0 cv0
        clear g0 g1 p0 p1 hcv hcv2
        clear hlt2
        have hu' := Lib.hid hu
        have hv' := Lib.hid hv
        have hi : (k : Int) < (xs.length : Int) := by omega
        have hi2 : (k : Int) < (ys.length : Int) := by omega
        clear hu hv
        by_cases he : u = v
        · have HT : Hid (xs.take (k + 1) = ys.take (k + 1)) := takeG_next hu'.out hv'.out ht.out he
          subst he
          go_wp2_with fail
          go_quiet (fail)
          go_wp2
          go_roundw
          case rel => exact ⟨k + 1, _, by omega, by go_num, rfl, HT⟩
          case measure => simp [intOf]; omega
        · have HT : Hid (eqG xs ys = false) := eqG_false (neG_of hu'.out hv'.out he)
          by_cases h1 : u.1 = v.1
          · have h2 : ¬ u.2 = v.2 := fun h => he (Prod.ext h1 h)
            clear he
            have h3 : (u.2 == v.2) = false := by rw [beq_eq_false_iff_ne]; exact h2
            go_wp2_with fail
            go_quiet (fail)
            go_wp2
            go_ret
            exact ⟨by rw [HT.out]; rfl, drewN_below (drewN_below (Below.refl _ _) _) _⟩
          · have h3 := str_ne h1
            clear he h1
            go_wp2_with fail
            go_quiet (fail)
            go_wp2
            go_ret
            exact ⟨by rw [HT.out]; rfl, drewN_below (drewN_below (Below.refl _ _) _) _⟩
      · have HT : Hid (eqG xs ys = true) := by rw [takeG_all (by omega) hl'.out ht.out]; exact eqG_same _
        go_wp2
        go_ret
        exact ⟨by rw [HT.out]; rfl, drewN_below (Below.refl _ _) _⟩
  · have hne : (((xs.length : Int)) != ((ys.length : Nat) : Int)) = true := by
      simp only [bne_iff_ne, ne_eq, Int.natCast_inj]; exact hl
    have HT : Hid (eqG xs ys = false) := eqG_false (fun h => hl (by rw [h]))
    clear hl
    go_enter Tryz.func158, Tryz.ntmps158
    go_wp2
    go_ret
    exact ⟨by rw [HT.out]; rfl, Below.refl _ _⟩

end Go.Proofs.YtlacidnnankjlaaGreatDoor

/-
  Operations on a whole struct, the world behind them a letter: what is made, stored, read.
-/
namespace Go.Proofs.YtlacidnnankjlaaGreatDoor
open Go.RowKit

theorem zero_mq (w : World) : (zeroValue 49).run Tryz.prog w = .ok (.agg (mqCells (mq0 0) nilV nilV nilV).toArray) w := by kernel_rfl
theorem size_mq : (Tryz.prog.info? 49).map (·.size) = some 24 := by kernel_rfl

end Go.Proofs.YtlacidnnankjlaaGreatDoor

/-
  A chain 'a.f == b.f && ..' in one region: one link of it, at a frame of which only the two boxes and what came of the links ahead are known.
-/
namespace Go.Proofs.YtlacidnnankjlaaGreatDoor
open Go.RowKit

/-- a frame of n slots: the boxes in 2 and 3, and c in slot k. -/
structure Fr (a : Act) (n ga gb k : Nat) (c : Bool) : Prop where
  sz : a.tmps.size = n
  df : a.defers = []
  t2 : a.eval (.tmp 2) = .pointer (some ⟨ga, 0, none⟩)
  t3 : a.eval (.tmp 3) = .pointer (some ⟨gb, 0, none⟩)
  tk : a.eval (.tmp k) = .bool c

/-- a slot above the boxes is written. -/
theorem Fr.put {a : Act} {n ga gb k : Nat} {c : Bool} (h : Fr a n ga gb k c) (d : Nat) (hd : 3 < d) (hk : d ≠ k) (v : Value) : Fr (a.put (some d) v) n ga gb k c :=
  ⟨by rw [Act.size_put, h.sz], by rw [Act.defers_put', h.df], by rw [Act.eval_put_ne _ _ _ _ (by omega), h.t2], by rw [Act.eval_put_ne _ _ _ _ (by omega), h.t3], by rw [Act.eval_put_ne _ _ _ _ hk, h.tk]⟩
theorem Fr.res {a : Act} {n ga gb k : Nat} {c : Bool} (h : Fr a n ga gb k c) (d : Nat) (hd : 3 < d) (hn : d < n) (b : Bool) : Fr (a.put (some d) (.bool b)) n ga gb d b :=
  ⟨by rw [Act.size_put, h.sz], by rw [Act.defers_put', h.df], by rw [Act.eval_put_ne _ _ _ _ (by omega), h.t2], by rw [Act.eval_put_ne _ _ _ _ (by omega), h.t3], Act.eval_put_same _ _ _ (by rw [h.sz]; exact hn)⟩

section
variable {P : Program} {ops : Array Oper} {rest : List Oper} {a : Act} {w : World} {Q : Exit → Act → World → Prop} {n ga gb k j d0 d1 d2 d3 d4 d5 d6 S T T' f off : Nat} {c e : Bool} {va vb : Value}
  {y0 y1 y2 y3 y4 y5 y6 : TypeId} {p0 p1 p2 p3 p4 p5 p6 : String} {f0 f1 f2 f3 f4 f5 f6 : Array Edge}

theorem wpList_link (hF : Fr a n ga gb k c) (hk : 3 < k) (hd0 : d0 = k + 1) (hd1 : d1 = k + 2) (hd2 : d2 = k + 3) (hd3 : d3 = k + 4) (hd4 : d4 = k + 5) (hd5 : d5 = k + 6) (hd6 : d6 = k + 7) (hn : k + 7 < n)
    (hj : (ops[j]?).bind (·.dst) = some d0)
    (hf : ∀ g w, (Instr.fieldAt S (.pointer (some ⟨g, 0, none⟩)) f).run P w = .ok (.pointer (some ⟨g, off, none⟩)) w)
    (ha : (Instr.loadAt T (.pointer (some ⟨ga, off, none⟩))).run P w = .ok va w) (hb : (Instr.loadAt T (.pointer (some ⟨gb, off, none⟩))).run P w = .ok vb w)
    (hq : (do eqGuard .eql T (.tmp d2) (.tmp d4) va vb; binOp .eql T va vb : Sem Value).run P w = .ok (.bool e) w)
    (h : ∀ a', Fr a' n ga gb d6 (c && e) → wpList P ops Q rest a' w) :
    wpList P ops Q (⟨some d0, .move (.tmp k), y0, p0, f0, none⟩ :: ⟨some d1, .fieldAddr S (.tmp 2) f, y1, p1, f1, some (j, true)⟩ :: ⟨some d2, .load T (.tmp d1), y2, p2, f2, some (j, true)⟩ ::
      ⟨some d3, .fieldAddr S (.tmp 3) f, y3, p3, f3, some (j, true)⟩ :: ⟨some d4, .load T (.tmp d3), y4, p4, f4, some (j, true)⟩ ::
      ⟨some d5, .binOp .eql T (.tmp d2) (.tmp d4) T', y5, p5, f5, some (j, true)⟩ :: ⟨some d6, .pick (.tmp d0) (.tmp d5) (.const (.bool false)), y6, p6, f6, none⟩ :: rest) a w := by
  have run1 : ∀ (v : Value), (pure (.value v) : Sem Next).run P w = .ok (.value v) w := fun v => rfl
  refine wpList_go (wanted_none rfl _) d0 rfl (.bool c) w (by rw [← hF.tk]; rfl) ?_
  have F0 := hF.res d0 (by omega) (by omega) c
  generalize a.put (some d0) (.bool c) = a0 at F0
  have pick : ∀ (a5 : Act) (ee : Bool), Fr a5 n ga gb d0 c → a5.eval (.tmp d5) = .bool ee ∨ (c = false) → (c = true → ee = e) →
      wpList P ops Q (⟨some d6, .pick (.tmp d0) (.tmp d5) (.const (.bool false)), y6, p6, f6, none⟩ :: rest) a5 w := by
    intro a5 ee F5 h5 hee
    refine wpList_go (wanted_none rfl _) d6 rfl (.bool (c && e)) w ?_ (h _ (F5.res d6 (by omega) (by omega) (c && e)))
    unfold execOp
    simp only [F5.tk]
    cases c with
    | false => rfl
    | true =>
      rcases h5 with h5 | h5
      · rw [h5, hee rfl]
        rfl
      · cases h5
  cases c with
  | false =>
    have wf : ∀ (aa : Act) (o : Oper), o.guard = some (j, true) → Fr aa n ga gb d0 false → Region.wanted o (yielded ops aa.tmps) = false := fun aa o ho hFF => wanted_of ho (yielded_of hj hFF.tk)
    have F1 := F0.put d1 (by omega) (by omega) undef
    have F2 := F1.put d2 (by omega) (by omega) undef
    have F3 := F2.put d3 (by omega) (by omega) undef
    have F4 := F3.put d4 (by omega) (by omega) undef
    have F5 := F4.put d5 (by omega) (by omega) undef
    refine wpList_off (wf _ _ rfl F0) d1 rfl (wpList_off (wf _ _ rfl F1) d2 rfl (wpList_off (wf _ _ rfl F2) d3 rfl (wpList_off (wf _ _ rfl F3) d4 rfl (wpList_off (wf _ _ rfl F4) d5 rfl ?_))))
    exact pick _ e F5 (.inr rfl) (fun h => rfl)
  | true =>
    have wt : ∀ (aa : Act) (o : Oper), o.guard = some (j, true) → Fr aa n ga gb d0 true → Region.wanted o (yielded ops aa.tmps) = true := fun aa o ho hFF => wanted_of ho (yielded_of hj hFF.tk)
    have F1 := F0.put d1 (by omega) (by omega) (.pointer (some ⟨ga, off, none⟩))
    have e1 : (a0.put (some d1) (.pointer (some ⟨ga, off, none⟩))).eval (.tmp d1) = _ := Act.eval_put_same _ _ _ (by rw [F0.sz]; omega)
    refine wpList_go (wt _ _ rfl F0) d1 rfl (.pointer (some ⟨ga, off, none⟩)) w ?_ ?_
    · unfold execOp
      simp only [F0.t2, Sem.run_bind, hf, Result.andThen_ok, Sem.run_pure]
    generalize a0.put (some d1) (.pointer (some ⟨ga, off, none⟩)) = a1 at F1 e1
    have F2 := F1.put d2 (by omega) (by omega) va
    have e2 : (a1.put (some d2) va).eval (.tmp d2) = _ := Act.eval_put_same _ _ _ (by rw [F1.sz]; omega)
    refine wpList_go (wt _ _ rfl F1) d2 rfl va w ?_ ?_
    · unfold execOp
      simp only [e1, Sem.run_bind, ha, Result.andThen_ok, Sem.run_pure]
    generalize a1.put (some d2) va = a2 at F2 e2
    have F3 := F2.put d3 (by omega) (by omega) (.pointer (some ⟨gb, off, none⟩))
    have e3 : (a2.put (some d3) (.pointer (some ⟨gb, off, none⟩))).eval (.tmp d3) = _ := Act.eval_put_same _ _ _ (by rw [F2.sz]; omega)
    have e32 : (a2.put (some d3) (.pointer (some ⟨gb, off, none⟩))).eval (.tmp d2) = va := by rw [Act.eval_put_ne _ _ _ _ (by omega), e2]
    refine wpList_go (wt _ _ rfl F2) d3 rfl (.pointer (some ⟨gb, off, none⟩)) w ?_ ?_
    · unfold execOp
      simp only [F2.t3, Sem.run_bind, hf, Result.andThen_ok, Sem.run_pure]
    generalize a2.put (some d3) (.pointer (some ⟨gb, off, none⟩)) = a3 at F3 e3 e32
    have F4 := F3.put d4 (by omega) (by omega) vb
    have e4 : (a3.put (some d4) vb).eval (.tmp d4) = _ := Act.eval_put_same _ _ _ (by rw [F3.sz]; omega)
    have e42 : (a3.put (some d4) vb).eval (.tmp d2) = va := by rw [Act.eval_put_ne _ _ _ _ (by omega), e32]
    refine wpList_go (wt _ _ rfl F3) d4 rfl vb w ?_ ?_
    · unfold execOp
      simp only [e3, Sem.run_bind, hb, Result.andThen_ok, Sem.run_pure]
    generalize a3.put (some d4) vb = a4 at F4 e4 e42
    have F5 := F4.put d5 (by omega) (by omega) (.bool e)
    refine wpList_go (wt _ _ rfl F4) d5 rfl (.bool e) w ?_ ?_
    · unfold execOp
      rw [Sem.run_bind] at hq
      simp only [e42, e4, Sem.run_bind, hq, Result.andThen_ok, Sem.run_pure]
    exact pick _ e F5 (.inl (Act.eval_put_same _ _ _ (by rw [F4.sz]; omega))) (fun _ => rfl)

theorem wpList_linkC {fn : FuncId} {ats : Array TypeId} (hF : Fr a n ga gb k c) (hk : 3 < k) (hd0 : d0 = k + 1) (hd1 : d1 = k + 2) (hd2 : d2 = k + 3) (hd3 : d3 = k + 4) (hd4 : d4 = k + 5) (hd5 : d5 = k + 6) (hd6 : d6 = k + 7) (hn : k + 7 < n)
    (hj : (ops[j]?).bind (·.dst) = some d0)
    (hf : ∀ g w, (Instr.fieldAt S (.pointer (some ⟨g, 0, none⟩)) f).run P w = .ok (.pointer (some ⟨g, off, none⟩)) w)
    (ha : (Instr.loadAt T (.pointer (some ⟨ga, off, none⟩))).run P w = .ok va w) (hb : (Instr.loadAt T (.pointer (some ⟨gb, off, none⟩))).run P w = .ok vb w)
    (hen : ∀ (args : Array Value) (w : World), (callFunc fn args).run P w = .ok (.enter fn args) w)
    (hq : Calls P fn #[va, vb] w fun r w' => r = .returned (.bool e) ∧ Below w.heap.size w w')
    (h : ∀ a' w', Fr a' n ga gb d6 (c && e) → Below w.heap.size w w' → wpList P ops Q rest a' w') :
    wpList P ops Q (⟨some d0, .move (.tmp k), y0, p0, f0, none⟩ :: ⟨some d1, .fieldAddr S (.tmp 2) f, y1, p1, f1, some (j, true)⟩ :: ⟨some d2, .load T (.tmp d1), y2, p2, f2, some (j, true)⟩ ::
      ⟨some d3, .fieldAddr S (.tmp 3) f, y3, p3, f3, some (j, true)⟩ :: ⟨some d4, .load T (.tmp d3), y4, p4, f4, some (j, true)⟩ ::
      ⟨some d5, .call { callee := .value (.func fn), args := #[.tmp d2, .tmp d4], argTypes := ats }, y5, p5, f5, some (j, true)⟩ :: ⟨some d6, .pick (.tmp d0) (.tmp d5) (.const (.bool false)), y6, p6, f6, none⟩ :: rest) a w := by
  have hw0 : Below w.heap.size w w := Below.refl _ _
  obtain ⟨w0, hw0e⟩ : ∃ w0 : World, w0 = w := ⟨_, rfl⟩
  rw [← hw0e] at hq h hw0
  refine wpList_go (wanted_none rfl _) d0 rfl (.bool c) w (by rw [← hF.tk]; rfl) ?_
  have F0 := hF.res d0 (by omega) (by omega) c
  generalize a.put (some d0) (.bool c) = a0 at F0
  have pick : ∀ (a5 : Act) (w : World) (ee : Bool) (hB : Below w0.heap.size w0 w), Fr a5 n ga gb d0 c → a5.eval (.tmp d5) = .bool ee ∨ (c = false) → (c = true → ee = e) →
      wpList P ops Q (⟨some d6, .pick (.tmp d0) (.tmp d5) (.const (.bool false)), y6, p6, f6, none⟩ :: rest) a5 w := by
    intro a5 w ee hB F5 h5 hee
    refine wpList_go (wanted_none rfl _) d6 rfl (.bool (c && e)) w ?_ (h _ _ (F5.res d6 (by omega) (by omega) (c && e)) hB)
    unfold execOp
    simp only [F5.tk]
    cases c with
    | false => rfl
    | true =>
      rcases h5 with h5 | h5
      · rw [h5, hee rfl]
        rfl
      · cases h5
  cases c with
  | false =>
    have wf : ∀ (aa : Act) (o : Oper), o.guard = some (j, true) → Fr aa n ga gb d0 false → Region.wanted o (yielded ops aa.tmps) = false := fun aa o ho hFF => wanted_of ho (yielded_of hj hFF.tk)
    have F1 := F0.put d1 (by omega) (by omega) undef
    have F2 := F1.put d2 (by omega) (by omega) undef
    have F3 := F2.put d3 (by omega) (by omega) undef
    have F4 := F3.put d4 (by omega) (by omega) undef
    have F5 := F4.put d5 (by omega) (by omega) undef
    refine wpList_off (wf _ _ rfl F0) d1 rfl (wpList_off (wf _ _ rfl F1) d2 rfl (wpList_off (wf _ _ rfl F2) d3 rfl (wpList_off (wf _ _ rfl F3) d4 rfl (wpList_off (wf _ _ rfl F4) d5 rfl ?_))))
    exact pick _ w e (by rw [← hw0e]; exact hw0) F5 (.inr rfl) (fun h => rfl)
  | true =>
    have wt : ∀ (aa : Act) (o : Oper), o.guard = some (j, true) → Fr aa n ga gb d0 true → Region.wanted o (yielded ops aa.tmps) = true := fun aa o ho hFF => wanted_of ho (yielded_of hj hFF.tk)
    have F1 := F0.put d1 (by omega) (by omega) (.pointer (some ⟨ga, off, none⟩))
    have e1 : (a0.put (some d1) (.pointer (some ⟨ga, off, none⟩))).eval (.tmp d1) = _ := Act.eval_put_same _ _ _ (by rw [F0.sz]; omega)
    refine wpList_go (wt _ _ rfl F0) d1 rfl (.pointer (some ⟨ga, off, none⟩)) w ?_ ?_
    · unfold execOp
      simp only [F0.t2, Sem.run_bind, hf, Result.andThen_ok, Sem.run_pure]
    generalize a0.put (some d1) (.pointer (some ⟨ga, off, none⟩)) = a1 at F1 e1
    have F2 := F1.put d2 (by omega) (by omega) va
    have e2 : (a1.put (some d2) va).eval (.tmp d2) = _ := Act.eval_put_same _ _ _ (by rw [F1.sz]; omega)
    refine wpList_go (wt _ _ rfl F1) d2 rfl va w ?_ ?_
    · unfold execOp
      simp only [e1, Sem.run_bind, ha, Result.andThen_ok, Sem.run_pure]
    generalize a1.put (some d2) va = a2 at F2 e2
    have F3 := F2.put d3 (by omega) (by omega) (.pointer (some ⟨gb, off, none⟩))
    have e3 : (a2.put (some d3) (.pointer (some ⟨gb, off, none⟩))).eval (.tmp d3) = _ := Act.eval_put_same _ _ _ (by rw [F2.sz]; omega)
    have e32 : (a2.put (some d3) (.pointer (some ⟨gb, off, none⟩))).eval (.tmp d2) = va := by rw [Act.eval_put_ne _ _ _ _ (by omega), e2]
    refine wpList_go (wt _ _ rfl F2) d3 rfl (.pointer (some ⟨gb, off, none⟩)) w ?_ ?_
    · unfold execOp
      simp only [F2.t3, Sem.run_bind, hf, Result.andThen_ok, Sem.run_pure]
    generalize a2.put (some d3) (.pointer (some ⟨gb, off, none⟩)) = a3 at F3 e3 e32
    have F4 := F3.put d4 (by omega) (by omega) vb
    have e4 : (a3.put (some d4) vb).eval (.tmp d4) = _ := Act.eval_put_same _ _ _ (by rw [F3.sz]; omega)
    have e42 : (a3.put (some d4) vb).eval (.tmp d2) = va := by rw [Act.eval_put_ne _ _ _ _ (by omega), e32]
    refine wpList_go (wt _ _ rfl F3) d4 rfl vb w ?_ ?_
    · unfold execOp
      simp only [e3, Sem.run_bind, hb, Result.andThen_ok, Sem.run_pure]
    generalize a3.put (some d4) vb = a4 at F4 e4 e42
    have F5 := F4.put d5 (by omega) (by omega) (.bool e)
    refine wpList_enter (wt _ _ rfl F4) d5 rfl fn #[va, vb] ?_ (fun v w' => v = .bool e ∧ Below w0.heap.size w0 w') (by rw [← hw0e]; exact hq.mono fun _ _ h => ⟨_, h.1, rfl, h.2⟩) ?_
    · rw [execOp_call_go, hen]
      simp [e42, e4]
    rintro v w' ⟨rfl, hB⟩
    exact pick _ w' e hB F5 (.inl (Act.eval_put_same _ _ _ (by rw [F4.sz]; omega))) (fun _ => rfl)

/-- the first link. -/
theorem wpList_link0 (hsz : a.tmps.size = n) (hdf : a.defers = []) (ht2 : a.eval (.tmp 2) = .pointer (some ⟨ga, 0, none⟩)) (ht3 : a.eval (.tmp 3) = .pointer (some ⟨gb, 0, none⟩))
    (hk : 3 < d1) (hd2 : d2 = d1 + 1) (hd3 : d3 = d1 + 2) (hd4 : d4 = d1 + 3) (hd5 : d5 = d1 + 4) (hn : d1 + 4 < n)
    (hf : ∀ g w, (Instr.fieldAt S (.pointer (some ⟨g, 0, none⟩)) f).run P w = .ok (.pointer (some ⟨g, off, none⟩)) w)
    (ha : (Instr.loadAt T (.pointer (some ⟨ga, off, none⟩))).run P w = .ok va w) (hb : (Instr.loadAt T (.pointer (some ⟨gb, off, none⟩))).run P w = .ok vb w)
    (hq : (do eqGuard .eql T (.tmp d2) (.tmp d4) va vb; binOp .eql T va vb : Sem Value).run P w = .ok (.bool e) w)
    (h : ∀ a', Fr a' n ga gb d5 e → wpList P ops Q rest a' w) :
    wpList P ops Q (⟨some d1, .fieldAddr S (.tmp 2) f, y1, p1, f1, none⟩ :: ⟨some d2, .load T (.tmp d1), y2, p2, f2, none⟩ ::
      ⟨some d3, .fieldAddr S (.tmp 3) f, y3, p3, f3, none⟩ :: ⟨some d4, .load T (.tmp d3), y4, p4, f4, none⟩ ::
      ⟨some d5, .binOp .eql T (.tmp d2) (.tmp d4) T', y5, p5, f5, none⟩ :: rest) a w := by
  obtain ⟨aa, haa⟩ : ∃ aa : Act, aa = a.put (some d1) (.bool true) := ⟨_, rfl⟩
  have FF : Fr aa n ga gb d1 true := by
    rw [haa]
    exact ⟨by rw [Act.size_put, hsz], by rw [Act.defers_put', hdf], by rw [Act.eval_put_ne _ _ _ _ (by omega), ht2], by rw [Act.eval_put_ne _ _ _ _ (by omega), ht3], Act.eval_put_same _ _ _ (by rw [hsz]; omega)⟩
  have z1 : (a.put (some d1) (.pointer (some ⟨ga, off, none⟩))).tmps.size = n := by rw [Act.size_put, hsz]
  have g1 : (a.put (some d1) (.pointer (some ⟨ga, off, none⟩))).defers = [] := by rw [Act.defers_put', hdf]
  have u1 : (a.put (some d1) (.pointer (some ⟨ga, off, none⟩))).eval (.tmp 2) = _ := (Act.eval_put_ne _ _ _ _ (by omega)).trans ht2
  have v1 : (a.put (some d1) (.pointer (some ⟨ga, off, none⟩))).eval (.tmp 3) = _ := (Act.eval_put_ne _ _ _ _ (by omega)).trans ht3
  have e1 : (a.put (some d1) (.pointer (some ⟨ga, off, none⟩))).eval (.tmp d1) = _ := Act.eval_put_same _ _ _ (by rw [hsz]; omega)
  refine wpList_go (wanted_none rfl _) d1 rfl (.pointer (some ⟨ga, off, none⟩)) w ?_ ?_
  · unfold execOp
    simp only [ht2, Sem.run_bind, hf, Result.andThen_ok, Sem.run_pure]
  generalize a.put (some d1) (.pointer (some ⟨ga, off, none⟩)) = a1 at *
  have z2 : (a1.put (some d2) va).tmps.size = n := by rw [Act.size_put, z1]
  have g2 : (a1.put (some d2) va).defers = [] := by rw [Act.defers_put', g1]
  have u2 : (a1.put (some d2) va).eval (.tmp 2) = _ := (Act.eval_put_ne _ _ _ _ (by omega)).trans u1
  have v2 : (a1.put (some d2) va).eval (.tmp 3) = _ := (Act.eval_put_ne _ _ _ _ (by omega)).trans v1
  have e2 : (a1.put (some d2) va).eval (.tmp d2) = _ := Act.eval_put_same _ _ _ (by rw [z1]; omega)
  refine wpList_go (wanted_none rfl _) d2 rfl va w ?_ ?_
  · unfold execOp
    simp only [e1, Sem.run_bind, ha, Result.andThen_ok, Sem.run_pure]
  generalize a1.put (some d2) va = a2 at *
  have z3 : (a2.put (some d3) (.pointer (some ⟨gb, off, none⟩))).tmps.size = n := by rw [Act.size_put, z2]
  have g3 : (a2.put (some d3) (.pointer (some ⟨gb, off, none⟩))).defers = [] := by rw [Act.defers_put', g2]
  have u3 : (a2.put (some d3) (.pointer (some ⟨gb, off, none⟩))).eval (.tmp 2) = _ := (Act.eval_put_ne _ _ _ _ (by omega)).trans u2
  have v3 : (a2.put (some d3) (.pointer (some ⟨gb, off, none⟩))).eval (.tmp 3) = _ := (Act.eval_put_ne _ _ _ _ (by omega)).trans v2
  have e3 : (a2.put (some d3) (.pointer (some ⟨gb, off, none⟩))).eval (.tmp d3) = _ := Act.eval_put_same _ _ _ (by rw [z2]; omega)
  have e32 : (a2.put (some d3) (.pointer (some ⟨gb, off, none⟩))).eval (.tmp d2) = va := (Act.eval_put_ne _ _ _ _ (by omega)).trans e2
  refine wpList_go (wanted_none rfl _) d3 rfl (.pointer (some ⟨gb, off, none⟩)) w ?_ ?_
  · unfold execOp
    simp only [v2, Sem.run_bind, hf, Result.andThen_ok, Sem.run_pure]
  generalize a2.put (some d3) (.pointer (some ⟨gb, off, none⟩)) = a3 at *
  have z4 : (a3.put (some d4) vb).tmps.size = n := by rw [Act.size_put, z3]
  have g4 : (a3.put (some d4) vb).defers = [] := by rw [Act.defers_put', g3]
  have u4 : (a3.put (some d4) vb).eval (.tmp 2) = _ := (Act.eval_put_ne _ _ _ _ (by omega)).trans u3
  have v4 : (a3.put (some d4) vb).eval (.tmp 3) = _ := (Act.eval_put_ne _ _ _ _ (by omega)).trans v3
  have e4 : (a3.put (some d4) vb).eval (.tmp d4) = _ := Act.eval_put_same _ _ _ (by rw [z3]; omega)
  have e42 : (a3.put (some d4) vb).eval (.tmp d2) = va := (Act.eval_put_ne _ _ _ _ (by omega)).trans e32
  refine wpList_go (wanted_none rfl _) d4 rfl vb w ?_ ?_
  · unfold execOp
    simp only [e3, Sem.run_bind, hb, Result.andThen_ok, Sem.run_pure]
  generalize a3.put (some d4) vb = a4 at *
  refine wpList_go (wanted_none rfl _) d5 rfl (.bool e) w ?_ ?_
  · unfold execOp
    rw [Sem.run_bind] at hq
    simp only [e42, e4, Sem.run_bind, hq, Result.andThen_ok, Sem.run_pure]
  refine h _ ⟨by rw [Act.size_put, z4], by rw [Act.defers_put', g4], (Act.eval_put_ne _ _ _ _ (by omega)).trans u4, (Act.eval_put_ne _ _ _ _ (by omega)).trans v4, Act.eval_put_same _ _ _ (by rw [z4]; omega)⟩
end

end Go.Proofs.YtlacidnnankjlaaGreatDoor

/-
  What the links of Same and EqMq do: fields' places, loads, equalities.
-/
namespace Go.Proofs.YtlacidnnankjlaaGreatDoor
open Go.RowKit

theorem field_0 (g : Nat) (w : World) : (Instr.fieldAt 49 (.pointer (some ⟨g, 0, none⟩)) 0).run Tryz.prog w = .ok (.pointer (some ⟨g, 0, none⟩)) w := by kernel_rfl
theorem field_1 (g : Nat) (w : World) : (Instr.fieldAt 49 (.pointer (some ⟨g, 0, none⟩)) 1).run Tryz.prog w = .ok (.pointer (some ⟨g, 1, none⟩)) w := by kernel_rfl
theorem field_2 (g : Nat) (w : World) : (Instr.fieldAt 49 (.pointer (some ⟨g, 0, none⟩)) 2).run Tryz.prog w = .ok (.pointer (some ⟨g, 2, none⟩)) w := by kernel_rfl
theorem field_3 (g : Nat) (w : World) : (Instr.fieldAt 49 (.pointer (some ⟨g, 0, none⟩)) 3).run Tryz.prog w = .ok (.pointer (some ⟨g, 3, none⟩)) w := by kernel_rfl
theorem field_4 (g : Nat) (w : World) : (Instr.fieldAt 49 (.pointer (some ⟨g, 0, none⟩)) 4).run Tryz.prog w = .ok (.pointer (some ⟨g, 4, none⟩)) w := by kernel_rfl
theorem field_5 (g : Nat) (w : World) : (Instr.fieldAt 49 (.pointer (some ⟨g, 0, none⟩)) 5).run Tryz.prog w = .ok (.pointer (some ⟨g, 9, none⟩)) w := by kernel_rfl
theorem field_6 (g : Nat) (w : World) : (Instr.fieldAt 49 (.pointer (some ⟨g, 0, none⟩)) 6).run Tryz.prog w = .ok (.pointer (some ⟨g, 10, none⟩)) w := by kernel_rfl
theorem field_7 (g : Nat) (w : World) : (Instr.fieldAt 49 (.pointer (some ⟨g, 0, none⟩)) 7).run Tryz.prog w = .ok (.pointer (some ⟨g, 11, none⟩)) w := by kernel_rfl
theorem field_8 (g : Nat) (w : World) : (Instr.fieldAt 49 (.pointer (some ⟨g, 0, none⟩)) 8).run Tryz.prog w = .ok (.pointer (some ⟨g, 12, none⟩)) w := by kernel_rfl
theorem field_9 (g : Nat) (w : World) : (Instr.fieldAt 49 (.pointer (some ⟨g, 0, none⟩)) 9).run Tryz.prog w = .ok (.pointer (some ⟨g, 13, none⟩)) w := by kernel_rfl
theorem field_10 (g : Nat) (w : World) : (Instr.fieldAt 49 (.pointer (some ⟨g, 0, none⟩)) 10).run Tryz.prog w = .ok (.pointer (some ⟨g, 14, none⟩)) w := by kernel_rfl
theorem field_11 (g : Nat) (w : World) : (Instr.fieldAt 49 (.pointer (some ⟨g, 0, none⟩)) 11).run Tryz.prog w = .ok (.pointer (some ⟨g, 15, none⟩)) w := by kernel_rfl
theorem field_12 (g : Nat) (w : World) : (Instr.fieldAt 49 (.pointer (some ⟨g, 0, none⟩)) 12).run Tryz.prog w = .ok (.pointer (some ⟨g, 16, none⟩)) w := by kernel_rfl
theorem field_13 (g : Nat) (w : World) : (Instr.fieldAt 49 (.pointer (some ⟨g, 0, none⟩)) 13).run Tryz.prog w = .ok (.pointer (some ⟨g, 17, none⟩)) w := by kernel_rfl
theorem field_14 (g : Nat) (w : World) : (Instr.fieldAt 49 (.pointer (some ⟨g, 0, none⟩)) 14).run Tryz.prog w = .ok (.pointer (some ⟨g, 18, none⟩)) w := by kernel_rfl
theorem field_15 (g : Nat) (w : World) : (Instr.fieldAt 49 (.pointer (some ⟨g, 0, none⟩)) 15).run Tryz.prog w = .ok (.pointer (some ⟨g, 19, none⟩)) w := by kernel_rfl
theorem field_16 (g : Nat) (w : World) : (Instr.fieldAt 49 (.pointer (some ⟨g, 0, none⟩)) 16).run Tryz.prog w = .ok (.pointer (some ⟨g, 20, none⟩)) w := by kernel_rfl
theorem field_17 (g : Nat) (w : World) : (Instr.fieldAt 49 (.pointer (some ⟨g, 0, none⟩)) 17).run Tryz.prog w = .ok (.pointer (some ⟨g, 21, none⟩)) w := by kernel_rfl
theorem field_18 (g : Nat) (w : World) : (Instr.fieldAt 49 (.pointer (some ⟨g, 0, none⟩)) 18).run Tryz.prog w = .ok (.pointer (some ⟨g, 22, none⟩)) w := by kernel_rfl
theorem field_19 (g : Nat) (w : World) : (Instr.fieldAt 49 (.pointer (some ⟨g, 0, none⟩)) 19).run Tryz.prog w = .ok (.pointer (some ⟨g, 23, none⟩)) w := by kernel_rfl
theorem load_will (g : Nat) (l : List Value) (a : Bool) (b c : ByteArray) (d : Int) (e : Bool) (w : World) (hC : Cells w g l) (h4 : l[4]? = some (.bool a)) (h5 : l[5]? = some (.string b)) (h6 : l[6]? = some (.string c)) (h7 : l[7]? = some (.int .i64 d)) (h8 : l[8]? = some (.bool e)) :
    (Instr.loadAt 44 (.pointer (some ⟨g, 4, none⟩))).run Tryz.prog w = .ok (.agg #[.bool a, .string b, .string c, .int .i64 d, .bool e]) w := by
  have c4 := hC.get 4 _ h4
  have c5 := hC.get 5 _ h5
  have c6 := hC.get 6 _ h6
  have c7 := hC.get 7 _ h7
  have c8 := hC.get 8 _ h8
  simp [go_sem, c4, c5, c6, c7, c8]
theorem eql_w (a a' : Bool) (b b' c c' : ByteArray) (d d' : Int) (e e' : Bool) (x y : Operand) (w : World) : (do eqGuard .eql 44 x y (.agg #[.bool a, .string b, .string c, .int .i64 d, .bool e]) (.agg #[.bool a', .string b', .string c', .int .i64 d', .bool e']); binOp .eql 44 (.agg #[.bool a, .string b, .string c, .int .i64 d, .bool e]) (.agg #[.bool a', .string b', .string c', .int .i64 d', .bool e']) : Sem Value).run Tryz.prog w =
    .ok (.bool (a == a' && (b.toList == b'.toList && (c.toList == c'.toList && (d == d' && e == e'))))) w := by
  simp [go_sem]
  by_cases h1 : a = a'
  · by_cases h2 : b.toList = b'.toList
    · by_cases h3 : c.toList = c'.toList
      · by_cases h4 : d = d'
        · by_cases h5 : e = e' <;> simp [h1, h2, h3, h4, h5]
        · simp [h1, h2, h3, h4]
      · simp [h1, h2, h3]
    · simp [h1, h2]
  · simp [h1]
theorem ent_slInts (args : Array Value) (w : World) : (callFunc 157 args).run Tryz.prog w = .ok (.enter 157 args) w := by kernel_rfl
theorem ent_slWishes (args : Array Value) (w : World) : (callFunc 158 args).run Tryz.prog w = .ok (.enter 158 args) w := by kernel_rfl
theorem ent_slStrs (args : Array Value) (w : World) : (callFunc 159 args).run Tryz.prog w = .ok (.enter 159 args) w := by kernel_rfl
end Go.Proofs.YtlacidnnankjlaaGreatDoor
