/-
  What the library's functions answer, laid at this dump in plain words (printed by the kit's lay-plain out of lay-shelf's text; numbers are this dump's).
-/
import Derived.Shelf.Small.Utf8
import Derived.Shelf.Small.Strs
import Derived.Shelf.Strings.Search1
import Derived.Shelf.Strings.Search2
import Derived.Shelf.Strings.Search3
import Derived.Shelf.LaysM
import Derived.Shelf.Strings.Shaped
import Derived.Shelf.Strings.Runes
import Derived.Shelf.Strings.IndexAny
import Derived.Shelf.Strings.AsciiSet
import Derived.Shelf.Strings.IndexAnyAll
import Derived.Shelf.Unicode.ValidAny
import Derived.Test.YtkcdkjpmbjcmdaaDoorProg
import Derived.WalkKit
import Derived.WalkSpells
import Derived.WalkLawsBesides
import Derived.Deep.AppendLies
import Derived.Deep.Draws
import Derived.Lib.Hide
import Derived.DataReads
import Derived.Deep.QuietTactic
import Derived.BigQuiet
import Derived.Outline
import Derived.Maps.AppendAt
import Derived.Laws.CopyOwn
import Derived.Laws.Tables
import Derived.Deep.RegionLaw
import Derived.Laws.BitsAllLaws
import Derived.Deep.RegionHeld3
import Derived.Deep.CutRange
import Derived.Deep.CutBlock
import Derived.StillTailTactics
import Derived.Lib.AppendStr
import Derived.Lib.ValidU
import Derived.WalkMore
import Derived.ScopeJumps
import Derived.Laws.RangeAny
import Derived.Lib.OthersKept
import Derived.Laws.Runes
import Derived.Deep.LoopGhost
import Derived.OwnWalk
import Derived.RegionTactic
import Derived.BigRegion
import Derived.Laws.IdiomStrings
import Derived.Lib.BufferRead
import Derived.Deep.MidRow
import Derived.Great.Walk
import Derived.Great.Frames
import Derived.LoopN
namespace Go.Proofs.YtkcdkjpmbjcmdaaDoor
open Go.Shelf
def Sh.lays119_ren : Go.Shelf.Ren := ⟨fun | 119 => 121 | n => n, fun | 21 => 21 | 4 => 4 | n => n, fun | n => n⟩
theorem Sh.lays119 : Go.Proofs.Lays.n119 Tryd.prog Sh.lays119_ren := {
  mixed := by kernel_rfl
  f119 := Tryd.func121.trans (congrArg some (by kernel_rfl))
  t4 := Tryd.underlying4
  a4 := Tryd.isAgg4
  z4 := Tryd.sizeOf4
  v4 := Tryd.zeroValue4
  t21 := Tryd.underlying21
  a21 := Tryd.isAgg21
  z21 := Tryd.sizeOf21
  v21 := Tryd.zeroValue21 }
theorem Sh.utf8_ValidRune (r : Int) (w : World) :
    Calls Tryd.prog 121 #[.int .i32 r] w fun e w' => e = .returned (.bool (Lib.validRune r)) ∧ w' = w := Any.utf8_ValidRune Sh.lays119 r w
def Sh.lays137_ren : Go.Shelf.Ren := ⟨fun | 137 => 120 | 217 => 116 | 266 => 122 | n => n, fun | 9 => 9 | 5 => 5 | 3 => 3 | n => n, fun | n => n⟩
theorem Sh.lays137 : Go.Proofs.Lays.n137 Tryd.prog Sh.lays137_ren := {
  mixed := by kernel_rfl
  f137 := Tryd.func120.trans (congrArg some (by kernel_rfl))
  f217 := Tryd.func116.trans (congrArg some (by kernel_rfl))
  f266 := Tryd.func122.trans (congrArg some (by kernel_rfl))
  t3 := Tryd.underlying3
  a3 := Tryd.isAgg3
  z3 := Tryd.sizeOf3
  v3 := Tryd.zeroValue3
  t5 := Tryd.underlying5
  a5 := Tryd.isAgg5
  z5 := Tryd.sizeOf5
  v5 := Tryd.zeroValue5
  t9 := Tryd.underlying9
  a9 := Tryd.isAgg9
  z9 := Tryd.sizeOf9
  v9 := Tryd.zeroValue9 }
open Go.RowKit in
theorem Sh.strings_IndexByte (s : ByteArray) (c : Int) (w : World) :
    Calls Tryd.prog 120 #[.string s, .int .u8 c] w fun e w' => e = .returned (.int .i64 (Lib.indexByte s.data.toList c.toNat.toUInt8)) ∧ w' = w := Any.strings_IndexByte Sh.lays137 s c w
def Sh.lays217_ren : Go.Shelf.Ren := ⟨fun | 217 => 116 | 266 => 122 | n => n, fun | 9 => 9 | 5 => 5 | 3 => 3 | n => n, fun | n => n⟩
theorem Sh.lays217 : Go.Proofs.Lays.n217 Tryd.prog Sh.lays217_ren := {
  mixed := by kernel_rfl
  f217 := Tryd.func116.trans (congrArg some (by kernel_rfl))
  f266 := Tryd.func122.trans (congrArg some (by kernel_rfl))
  t3 := Tryd.underlying3
  a3 := Tryd.isAgg3
  z3 := Tryd.sizeOf3
  v3 := Tryd.zeroValue3
  t5 := Tryd.underlying5
  a5 := Tryd.isAgg5
  z5 := Tryd.sizeOf5
  v5 := Tryd.zeroValue5
  t9 := Tryd.underlying9
  a9 := Tryd.isAgg9
  z9 := Tryd.sizeOf9
  v9 := Tryd.zeroValue9 }
open Go.RowKit Go.Lib in
theorem Sh.stringslite_IndexByte (s : ByteArray) (c : Int) (w : World) :
    Calls Tryd.prog 116 #[.string s, .int .u8 c] w fun e w' => e = .returned (.int .i64 (Lib.indexByte s.data.toList c.toNat.toUInt8)) ∧ w' = w := Any.stringslite_IndexByte Sh.lays217 s c w
def Sh.lays224_ren : Go.Shelf.Ren := ⟨fun | 224 => 118 | n => n, fun | 3 => 3 | n => n, fun | n => n⟩
theorem Sh.lays224 : Go.Proofs.Lays.n224 Tryd.prog Sh.lays224_ren := {
  mixed := by kernel_rfl
  f224 := Tryd.func118.trans (congrArg some (by kernel_rfl))
  t3 := Tryd.underlying3
  a3 := Tryd.isAgg3
  z3 := Tryd.sizeOf3
  v3 := Tryd.zeroValue3 }
open Go.RowKit Go.Lib in
theorem Sh.bytealg_Cutover (n : Int) (h0 : 0 ≤ n) (h1 : n < 4611686018427387904) (w : World) :
    Calls Tryd.prog 118 #[.int .i64 n] w fun e w' => e = .returned (.int .i64 ((n + 16) / 8)) ∧ w' = w := Any.bytealg_Cutover Sh.lays224 n h0 h1 w
def Sh.lays314_ren : Go.Shelf.Ren := ⟨fun | 314 => 123 | n => n, fun | 9 => 9 | 51 => 137 | 3 => 3 | 4 => 4 | 5 => 5 | 46 => 79 | n => n, fun | n => n⟩
theorem Sh.lays314 : Go.Proofs.Lays.n314 Tryd.prog Sh.lays314_ren := {
  mixed := by kernel_rfl
  f314 := Tryd.func123.trans (congrArg some (by kernel_rfl))
  t3 := Tryd.underlying3
  a3 := Tryd.isAgg3
  z3 := Tryd.sizeOf3
  v3 := Tryd.zeroValue3
  t4 := Tryd.underlying4
  a4 := Tryd.isAgg4
  z4 := Tryd.sizeOf4
  v4 := Tryd.zeroValue4
  t5 := Tryd.underlying5
  a5 := Tryd.isAgg5
  z5 := Tryd.sizeOf5
  v5 := Tryd.zeroValue5
  t9 := Tryd.underlying9
  a9 := Tryd.isAgg9
  z9 := Tryd.sizeOf9
  v9 := Tryd.zeroValue9
  t46 := Tryd.underlying79
  a46 := Tryd.isAgg79
  z46 := Tryd.sizeOf79
  v46 := Tryd.zeroValue79
  t51 := Tryd.underlying137
  a51 := Tryd.isAgg137
  z51 := Tryd.sizeOf137
  v51 := Tryd.zeroValue137 }
open Go.RowKit Go.Lib in
theorem Sh.bytealg_hashStr (sep : ByteArray) (hs : sep.size < 4294967281) (w : World) :
    Calls Tryd.prog 123 #[.string sep] w fun e w' => e = .returned (.tuple #[.int .u32 (RK.H sep.data.toList % 4294967296), .int .u32 (16777619 ^ sep.size % 4294967296)]) ∧ w' = w := Any.bytealg_hashStr Sh.lays314 sep hs w
def Sh.lays267_ren : Go.Shelf.Ren := ⟨fun | 267 => 119 | 314 => 123 | n => n, fun | 9 => 9 | 3 => 3 | 146 => 138 | 51 => 137 | 4 => 4 | 5 => 5 | 46 => 79 | n => n, fun | n => n⟩
theorem Sh.lays267 : Go.Proofs.Lays.n267 Tryd.prog Sh.lays267_ren := {
  mixed := by kernel_rfl
  f267 := Tryd.func119.trans (congrArg some (by kernel_rfl))
  f314 := Tryd.func123.trans (congrArg some (by kernel_rfl))
  t3 := Tryd.underlying3
  a3 := Tryd.isAgg3
  z3 := Tryd.sizeOf3
  v3 := Tryd.zeroValue3
  t4 := Tryd.underlying4
  a4 := Tryd.isAgg4
  z4 := Tryd.sizeOf4
  v4 := Tryd.zeroValue4
  t5 := Tryd.underlying5
  a5 := Tryd.isAgg5
  z5 := Tryd.sizeOf5
  v5 := Tryd.zeroValue5
  t9 := Tryd.underlying9
  a9 := Tryd.isAgg9
  z9 := Tryd.sizeOf9
  v9 := Tryd.zeroValue9
  t46 := Tryd.underlying79
  a46 := Tryd.isAgg79
  z46 := Tryd.sizeOf79
  v46 := Tryd.zeroValue79
  t51 := Tryd.underlying137
  a51 := Tryd.isAgg137
  z51 := Tryd.sizeOf137
  v51 := Tryd.zeroValue137
  t146 := Tryd.underlying138
  a146 := Tryd.isAgg138
  z146 := Tryd.sizeOf138
  v146 := Tryd.zeroValue138 }
open Go.RowKit Go.Lib in
theorem Sh.bytealg_IndexRabinKarp (s sep : ByteArray) (h1 : 1 ≤ sep.size) (h2 : sep.size ≤ s.size) (hs : s.size < 4294967281) (w : World) :
    Calls Tryd.prog 119 #[.string s, .string sep] w fun e w' => e = .returned (.int .i64 (Lib.index s.data.toList sep.data.toList)) ∧ w' = w := Any.bytealg_IndexRabinKarp Sh.lays267 s sep h1 h2 hs w
def Sh.lays219_ren : Go.Shelf.Ren := ⟨fun | 219 => 111 | 217 => 116 | 225 => 117 | 224 => 118 | 267 => 119 | 266 => 122 | 314 => 123 | n => n, fun | 9 => 9 | 3 => 3 | 4 => 4 | 5 => 5 | 46 => 79 | 146 => 138 | 51 => 137 | n => n, fun | 1 => 2 | n => n⟩
theorem Sh.lays219 : Go.Proofs.Lays.n219 Tryd.prog Sh.lays219_ren := {
  mixed := by kernel_rfl
  f217 := Tryd.func116.trans (congrArg some (by kernel_rfl))
  f219 := Tryd.func111.trans (congrArg some (by kernel_rfl))
  f224 := Tryd.func118.trans (congrArg some (by kernel_rfl))
  f225 := Tryd.func117.trans (congrArg some (by kernel_rfl))
  f266 := Tryd.func122.trans (congrArg some (by kernel_rfl))
  f267 := Tryd.func119.trans (congrArg some (by kernel_rfl))
  f314 := Tryd.func123.trans (congrArg some (by kernel_rfl))
  t3 := Tryd.underlying3
  a3 := Tryd.isAgg3
  z3 := Tryd.sizeOf3
  v3 := Tryd.zeroValue3
  t4 := Tryd.underlying4
  a4 := Tryd.isAgg4
  z4 := Tryd.sizeOf4
  v4 := Tryd.zeroValue4
  t5 := Tryd.underlying5
  a5 := Tryd.isAgg5
  z5 := Tryd.sizeOf5
  v5 := Tryd.zeroValue5
  t9 := Tryd.underlying9
  a9 := Tryd.isAgg9
  z9 := Tryd.sizeOf9
  v9 := Tryd.zeroValue9
  t46 := Tryd.underlying79
  a46 := Tryd.isAgg79
  z46 := Tryd.sizeOf79
  v46 := Tryd.zeroValue79
  t51 := Tryd.underlying137
  a51 := Tryd.isAgg137
  z51 := Tryd.sizeOf137
  v51 := Tryd.zeroValue137
  t146 := Tryd.underlying138
  a146 := Tryd.isAgg138
  z146 := Tryd.sizeOf138
  v146 := Tryd.zeroValue138
  g1 := by kernel_rfl }
open Go.RowKit Go.Lib in
theorem Sh.stringslite_Index_one (s : ByteArray) (c : UInt8) (w : World) :
    Calls Tryd.prog 111 #[.string s, .string ⟨#[c]⟩] w fun e w' => e = .returned (.int .i64 (Lib.indexByte s.data.toList c)) ∧ w' = w := Any.stringslite_Index_one Sh.lays219 s c w
open Go.RowKit Go.Lib in
theorem Sh.stringslite_Index (s sub : ByteArray) (m : Int) (w : World) (hs : s.size < 4294967281) (hm : w.cell? ⟨2, 0, none⟩ = some (.int .i64 m)) :
    Calls Tryd.prog 111 #[.string s, .string sub] w fun e w' => e = .returned (.int .i64 (Lib.index s.data.toList sub.data.toList)) ∧ w' = w := Any.stringslite_Index Sh.lays219 s sub m w hs hm
def Sh.lays143_ren : Go.Shelf.Ren := ⟨fun | 143 => 109 | 219 => 111 | 217 => 116 | 225 => 117 | 224 => 118 | 267 => 119 | 266 => 122 | 314 => 123 | n => n, fun | 9 => 9 | 3 => 3 | 4 => 4 | 5 => 5 | 46 => 79 | 146 => 138 | 51 => 137 | n => n, fun | 1 => 2 | n => n⟩
theorem Sh.lays143 : Go.Proofs.Lays.n143 Tryd.prog Sh.lays143_ren := {
  mixed := by kernel_rfl
  f143 := Tryd.func109.trans (congrArg some (by kernel_rfl))
  f217 := Tryd.func116.trans (congrArg some (by kernel_rfl))
  f219 := Tryd.func111.trans (congrArg some (by kernel_rfl))
  f224 := Tryd.func118.trans (congrArg some (by kernel_rfl))
  f225 := Tryd.func117.trans (congrArg some (by kernel_rfl))
  f266 := Tryd.func122.trans (congrArg some (by kernel_rfl))
  f267 := Tryd.func119.trans (congrArg some (by kernel_rfl))
  f314 := Tryd.func123.trans (congrArg some (by kernel_rfl))
  t3 := Tryd.underlying3
  a3 := Tryd.isAgg3
  z3 := Tryd.sizeOf3
  v3 := Tryd.zeroValue3
  t4 := Tryd.underlying4
  a4 := Tryd.isAgg4
  z4 := Tryd.sizeOf4
  v4 := Tryd.zeroValue4
  t5 := Tryd.underlying5
  a5 := Tryd.isAgg5
  z5 := Tryd.sizeOf5
  v5 := Tryd.zeroValue5
  t9 := Tryd.underlying9
  a9 := Tryd.isAgg9
  z9 := Tryd.sizeOf9
  v9 := Tryd.zeroValue9
  t46 := Tryd.underlying79
  a46 := Tryd.isAgg79
  z46 := Tryd.sizeOf79
  v46 := Tryd.zeroValue79
  t51 := Tryd.underlying137
  a51 := Tryd.isAgg137
  z51 := Tryd.sizeOf137
  v51 := Tryd.zeroValue137
  t146 := Tryd.underlying138
  a146 := Tryd.isAgg138
  z146 := Tryd.sizeOf138
  v146 := Tryd.zeroValue138
  g1 := by kernel_rfl }
open Go.RowKit Go.Lib in
theorem Sh.strings_Index_one (s : ByteArray) (c : UInt8) (w : World) :
    Calls Tryd.prog 109 #[.string s, .string ⟨#[c]⟩] w fun e w' => e = .returned (.int .i64 (Lib.indexByte s.data.toList c)) ∧ w' = w := Any.strings_Index_one Sh.lays143 s c w
open Go.RowKit Go.Lib in
theorem Sh.strings_Index (s sub : ByteArray) (m : Int) (w : World) (hs : s.size < 4294967281) (hm : w.cell? ⟨2, 0, none⟩ = some (.int .i64 m)) :
    Calls Tryd.prog 109 #[.string s, .string sub] w fun e w' => e = .returned (.int .i64 (Lib.index s.data.toList sub.data.toList)) ∧ w' = w := Any.strings_Index Sh.lays143 s sub m w hs hm
def Sh.lays144_ren : Go.Shelf.Ren := ⟨fun | 144 => 107 | 143 => 109 | 219 => 111 | 217 => 116 | 225 => 117 | 224 => 118 | 267 => 119 | 266 => 122 | 314 => 123 | n => n, fun | 9 => 9 | 4 => 4 | 3 => 3 | 5 => 5 | 46 => 79 | 146 => 138 | 51 => 137 | n => n, fun | 1 => 2 | n => n⟩
theorem Sh.lays144 : Go.Proofs.Lays.n144 Tryd.prog Sh.lays144_ren := {
  mixed := by kernel_rfl
  f143 := Tryd.func109.trans (congrArg some (by kernel_rfl))
  f144 := Tryd.func107.trans (congrArg some (by kernel_rfl))
  f217 := Tryd.func116.trans (congrArg some (by kernel_rfl))
  f219 := Tryd.func111.trans (congrArg some (by kernel_rfl))
  f224 := Tryd.func118.trans (congrArg some (by kernel_rfl))
  f225 := Tryd.func117.trans (congrArg some (by kernel_rfl))
  f266 := Tryd.func122.trans (congrArg some (by kernel_rfl))
  f267 := Tryd.func119.trans (congrArg some (by kernel_rfl))
  f314 := Tryd.func123.trans (congrArg some (by kernel_rfl))
  t3 := Tryd.underlying3
  a3 := Tryd.isAgg3
  z3 := Tryd.sizeOf3
  v3 := Tryd.zeroValue3
  t4 := Tryd.underlying4
  a4 := Tryd.isAgg4
  z4 := Tryd.sizeOf4
  v4 := Tryd.zeroValue4
  t5 := Tryd.underlying5
  a5 := Tryd.isAgg5
  z5 := Tryd.sizeOf5
  v5 := Tryd.zeroValue5
  t9 := Tryd.underlying9
  a9 := Tryd.isAgg9
  z9 := Tryd.sizeOf9
  v9 := Tryd.zeroValue9
  t46 := Tryd.underlying79
  a46 := Tryd.isAgg79
  z46 := Tryd.sizeOf79
  v46 := Tryd.zeroValue79
  t51 := Tryd.underlying137
  a51 := Tryd.isAgg137
  z51 := Tryd.sizeOf137
  v51 := Tryd.zeroValue137
  t146 := Tryd.underlying138
  a146 := Tryd.isAgg138
  z146 := Tryd.sizeOf138
  v146 := Tryd.zeroValue138
  g1 := by kernel_rfl }
open Go.RowKit Go.Lib in
theorem Sh.strings_Contains_one (s : ByteArray) (c : UInt8) (w : World) :
    Calls Tryd.prog 107 #[.string s, .string ⟨#[c]⟩] w fun e w' => e = .returned (.bool (decide (0 ≤ Lib.indexByte s.data.toList c))) ∧ w' = w := Any.strings_Contains_one Sh.lays144 s c w
open Go.RowKit Go.Lib in
theorem Sh.strings_Contains (s sub : ByteArray) (m : Int) (w : World) (hs : s.size < 4294967281) (hm : w.cell? ⟨2, 0, none⟩ = some (.int .i64 m)) :
    Calls Tryd.prog 107 #[.string s, .string sub] w fun e w' => e = .returned (.bool (Lib.contains s.data.toList sub.data.toList)) ∧ w' = w := Any.strings_Contains Sh.lays144 s sub m w hs hm
def Sh.laysM219_ren : Go.Shelf.Ren := ⟨fun | 219 => 111 | 217 => 116 | 225 => 117 | 224 => 118 | 267 => 119 | 266 => 122 | 314 => 123 | n => n, fun | 9 => 9 | 3 => 3 | 4 => 4 | 5 => 5 | 46 => 79 | 146 => 138 | 51 => 137 | n => n, fun | 1 => 2 | n => n⟩
theorem Sh.laysM219 : Go.Proofs.LaysM.n219 Tryd.prog Sh.laysM219_ren := {
  mixed := by kernel_rfl
  f217 := Tryd.func116.trans (congrArg some (by kernel_rfl))
  f219 := Tryd.func111.trans (congrArg some (by kernel_rfl))
  f224 := Tryd.func118.trans (congrArg some (by kernel_rfl))
  f225 := Tryd.func117.trans (congrArg some (by kernel_rfl))
  f266 := Tryd.func122.trans (congrArg some (by kernel_rfl))
  f267 := Tryd.func119.trans (congrArg some (by kernel_rfl))
  f314 := Tryd.func123.trans (congrArg some (by kernel_rfl))
  t3 := Tryd.underlying3
  a3 := Tryd.isAgg3
  z3 := Tryd.sizeOf3
  v3 := Tryd.zeroValue3
  t4 := Tryd.underlying4
  a4 := Tryd.isAgg4
  z4 := Tryd.sizeOf4
  v4 := Tryd.zeroValue4
  t5 := Tryd.underlying5
  a5 := Tryd.isAgg5
  z5 := Tryd.sizeOf5
  v5 := Tryd.zeroValue5
  t9 := Tryd.underlying9
  a9 := Tryd.isAgg9
  z9 := Tryd.sizeOf9
  v9 := Tryd.zeroValue9
  t46 := Tryd.underlying79
  a46 := Tryd.isAgg79
  z46 := Tryd.sizeOf79
  v46 := Tryd.zeroValue79
  t51 := Tryd.underlying137
  a51 := Tryd.isAgg137
  z51 := Tryd.sizeOf137
  v51 := Tryd.zeroValue137
  t146 := Tryd.underlying138
  a146 := Tryd.isAgg138
  z146 := Tryd.sizeOf138
  v146 := Tryd.zeroValue138
  g1 := by kernel_rfl
  i3 := by kernel_rfl
  i4 := by kernel_rfl
  i5 := by kernel_rfl
  i9 := by kernel_rfl
  i46 := by kernel_rfl
  i51 := by kernel_rfl
  i146 := by kernel_rfl
  m1 := by kernel_rfl
  s1_3 := fun w h => Go.Proofs.cell_of_shapedOpen_int (zero := #[.int .i64 0]) (t := 3) h (of_decide_eq_true (by kernel_rfl)) (by kernel_rfl) rfl (by kernel_rfl) (by kernel_rfl) Tryd.underlying3 }
open Go.RowKit Go.Lib in
theorem Sh.stringslite_Index_shaped (s sub : ByteArray) (w : World) (h : w.ShapedOpen Tryd.prog) (hs : s.size < 4294967281) :
    Calls Tryd.prog 111 #[.string s, .string sub] w fun e w' => e = .returned (.int .i64 (Lib.index s.data.toList sub.data.toList)) ∧ w' = w := Any.stringslite_Index_shaped Sh.laysM219 s sub w h hs
def Sh.laysM143_ren : Go.Shelf.Ren := ⟨fun | 143 => 109 | 219 => 111 | 217 => 116 | 225 => 117 | 224 => 118 | 267 => 119 | 266 => 122 | 314 => 123 | n => n, fun | 9 => 9 | 3 => 3 | 4 => 4 | 5 => 5 | 46 => 79 | 146 => 138 | 51 => 137 | n => n, fun | 1 => 2 | n => n⟩
theorem Sh.laysM143 : Go.Proofs.LaysM.n143 Tryd.prog Sh.laysM143_ren := {
  mixed := by kernel_rfl
  f143 := Tryd.func109.trans (congrArg some (by kernel_rfl))
  f217 := Tryd.func116.trans (congrArg some (by kernel_rfl))
  f219 := Tryd.func111.trans (congrArg some (by kernel_rfl))
  f224 := Tryd.func118.trans (congrArg some (by kernel_rfl))
  f225 := Tryd.func117.trans (congrArg some (by kernel_rfl))
  f266 := Tryd.func122.trans (congrArg some (by kernel_rfl))
  f267 := Tryd.func119.trans (congrArg some (by kernel_rfl))
  f314 := Tryd.func123.trans (congrArg some (by kernel_rfl))
  t3 := Tryd.underlying3
  a3 := Tryd.isAgg3
  z3 := Tryd.sizeOf3
  v3 := Tryd.zeroValue3
  t4 := Tryd.underlying4
  a4 := Tryd.isAgg4
  z4 := Tryd.sizeOf4
  v4 := Tryd.zeroValue4
  t5 := Tryd.underlying5
  a5 := Tryd.isAgg5
  z5 := Tryd.sizeOf5
  v5 := Tryd.zeroValue5
  t9 := Tryd.underlying9
  a9 := Tryd.isAgg9
  z9 := Tryd.sizeOf9
  v9 := Tryd.zeroValue9
  t46 := Tryd.underlying79
  a46 := Tryd.isAgg79
  z46 := Tryd.sizeOf79
  v46 := Tryd.zeroValue79
  t51 := Tryd.underlying137
  a51 := Tryd.isAgg137
  z51 := Tryd.sizeOf137
  v51 := Tryd.zeroValue137
  t146 := Tryd.underlying138
  a146 := Tryd.isAgg138
  z146 := Tryd.sizeOf138
  v146 := Tryd.zeroValue138
  g1 := by kernel_rfl
  i3 := by kernel_rfl
  i4 := by kernel_rfl
  i5 := by kernel_rfl
  i9 := by kernel_rfl
  i46 := by kernel_rfl
  i51 := by kernel_rfl
  i146 := by kernel_rfl
  m1 := by kernel_rfl
  s1_3 := fun w h => Go.Proofs.cell_of_shapedOpen_int (zero := #[.int .i64 0]) (t := 3) h (of_decide_eq_true (by kernel_rfl)) (by kernel_rfl) rfl (by kernel_rfl) (by kernel_rfl) Tryd.underlying3 }
open Go.RowKit Go.Lib in
theorem Sh.strings_Index_shaped (s sub : ByteArray) (w : World) (h : w.ShapedOpen Tryd.prog) (hs : s.size < 4294967281) :
    Calls Tryd.prog 109 #[.string s, .string sub] w fun e w' => e = .returned (.int .i64 (Lib.index s.data.toList sub.data.toList)) ∧ w' = w := Any.strings_Index_shaped Sh.laysM143 s sub w h hs
def Sh.laysM144_ren : Go.Shelf.Ren := ⟨fun | 144 => 107 | 143 => 109 | 219 => 111 | 217 => 116 | 225 => 117 | 224 => 118 | 267 => 119 | 266 => 122 | 314 => 123 | n => n, fun | 9 => 9 | 4 => 4 | 3 => 3 | 5 => 5 | 46 => 79 | 146 => 138 | 51 => 137 | n => n, fun | 1 => 2 | n => n⟩
theorem Sh.laysM144 : Go.Proofs.LaysM.n144 Tryd.prog Sh.laysM144_ren := {
  mixed := by kernel_rfl
  f143 := Tryd.func109.trans (congrArg some (by kernel_rfl))
  f144 := Tryd.func107.trans (congrArg some (by kernel_rfl))
  f217 := Tryd.func116.trans (congrArg some (by kernel_rfl))
  f219 := Tryd.func111.trans (congrArg some (by kernel_rfl))
  f224 := Tryd.func118.trans (congrArg some (by kernel_rfl))
  f225 := Tryd.func117.trans (congrArg some (by kernel_rfl))
  f266 := Tryd.func122.trans (congrArg some (by kernel_rfl))
  f267 := Tryd.func119.trans (congrArg some (by kernel_rfl))
  f314 := Tryd.func123.trans (congrArg some (by kernel_rfl))
  t3 := Tryd.underlying3
  a3 := Tryd.isAgg3
  z3 := Tryd.sizeOf3
  v3 := Tryd.zeroValue3
  t4 := Tryd.underlying4
  a4 := Tryd.isAgg4
  z4 := Tryd.sizeOf4
  v4 := Tryd.zeroValue4
  t5 := Tryd.underlying5
  a5 := Tryd.isAgg5
  z5 := Tryd.sizeOf5
  v5 := Tryd.zeroValue5
  t9 := Tryd.underlying9
  a9 := Tryd.isAgg9
  z9 := Tryd.sizeOf9
  v9 := Tryd.zeroValue9
  t46 := Tryd.underlying79
  a46 := Tryd.isAgg79
  z46 := Tryd.sizeOf79
  v46 := Tryd.zeroValue79
  t51 := Tryd.underlying137
  a51 := Tryd.isAgg137
  z51 := Tryd.sizeOf137
  v51 := Tryd.zeroValue137
  t146 := Tryd.underlying138
  a146 := Tryd.isAgg138
  z146 := Tryd.sizeOf138
  v146 := Tryd.zeroValue138
  g1 := by kernel_rfl
  i3 := by kernel_rfl
  i4 := by kernel_rfl
  i5 := by kernel_rfl
  i9 := by kernel_rfl
  i46 := by kernel_rfl
  i51 := by kernel_rfl
  i146 := by kernel_rfl
  m1 := by kernel_rfl
  s1_3 := fun w h => Go.Proofs.cell_of_shapedOpen_int (zero := #[.int .i64 0]) (t := 3) h (of_decide_eq_true (by kernel_rfl)) (by kernel_rfl) rfl (by kernel_rfl) (by kernel_rfl) Tryd.underlying3 }
open Go.RowKit Go.Lib in
theorem Sh.strings_Contains_shaped (s sub : ByteArray) (w : World) (h : w.ShapedOpen Tryd.prog) (hs : s.size < 4294967281) :
    Calls Tryd.prog 107 #[.string s, .string sub] w fun e w' => e = .returned (.bool (Lib.contains s.data.toList sub.data.toList)) ∧ w' = w := Any.strings_Contains_shaped Sh.laysM144 s sub w h hs
def Sh.lays152_ren : Go.Shelf.Ren := ⟨fun | 152 => 112 | 137 => 120 | 119 => 121 | 224 => 118 | 225 => 117 | 217 => 116 | 266 => 122 | n => n, fun | 9 => 9 | 21 => 21 | 3 => 3 | 4 => 4 | 5 => 5 | 0 => 0 | 46 => 79 | n => n, fun | n => n⟩
theorem Sh.lays152 : Go.Proofs.Lays.n152 Tryd.prog Sh.lays152_ren := {
  mixed := by kernel_rfl
  f119 := Tryd.func121.trans (congrArg some (by kernel_rfl))
  f137 := Tryd.func120.trans (congrArg some (by kernel_rfl))
  f152 := Tryd.func112.trans (congrArg some (by kernel_rfl))
  f217 := Tryd.func116.trans (congrArg some (by kernel_rfl))
  f224 := Tryd.func118.trans (congrArg some (by kernel_rfl))
  f225 := Tryd.func117.trans (congrArg some (by kernel_rfl))
  f266 := Tryd.func122.trans (congrArg some (by kernel_rfl))
  t0 := Tryd.underlying0
  a0 := Tryd.isAgg0
  z0 := Tryd.sizeOf0
  v0 := Tryd.zeroValue0
  t3 := Tryd.underlying3
  a3 := Tryd.isAgg3
  z3 := Tryd.sizeOf3
  v3 := Tryd.zeroValue3
  t4 := Tryd.underlying4
  a4 := Tryd.isAgg4
  z4 := Tryd.sizeOf4
  v4 := Tryd.zeroValue4
  t5 := Tryd.underlying5
  a5 := Tryd.isAgg5
  z5 := Tryd.sizeOf5
  v5 := Tryd.zeroValue5
  t9 := Tryd.underlying9
  a9 := Tryd.isAgg9
  z9 := Tryd.sizeOf9
  v9 := Tryd.zeroValue9
  t21 := Tryd.underlying21
  a21 := Tryd.isAgg21
  z21 := Tryd.sizeOf21
  v21 := Tryd.zeroValue21
  t46 := Tryd.underlying79
  a46 := Tryd.isAgg79
  z46 := Tryd.sizeOf79
  v46 := Tryd.zeroValue79 }
open Go.RowKit Go.Lib in
theorem Sh.strings_IndexRune_ascii (s : ByteArray) (r : Int) (w : World) (h0 : 0 ≤ r) (h1 : r < 128) :
    Calls Tryd.prog 112 #[.string s, .int .i32 r] w fun e w' => e = .returned (.int .i64 (Lib.indexByte s.data.toList r.toNat.toUInt8)) ∧ w' = w := Any.strings_IndexRune_ascii Sh.lays152 s r w h0 h1
def Sh.lays226_ren : Go.Shelf.Ren := ⟨fun | 226 => 113 | n => n, fun | 3 => 3 | 4 => 4 | n => n, fun | n => n⟩
theorem Sh.lays226 : Go.Proofs.Lays.n226 Tryd.prog Sh.lays226_ren := {
  mixed := by kernel_rfl
  f226 := Tryd.func113.trans (congrArg some (by kernel_rfl))
  t3 := Tryd.underlying3
  a3 := Tryd.isAgg3
  z3 := Tryd.sizeOf3
  v3 := Tryd.zeroValue3
  t4 := Tryd.underlying4
  a4 := Tryd.isAgg4
  z4 := Tryd.sizeOf4
  v4 := Tryd.zeroValue4 }
open Go.RowKit Go.Lib in
theorem Sh.strings_shouldUseASCIISet (n : Int) (w : World) :
    Calls Tryd.prog 113 #[.int .i64 n] w fun e w' => e = .returned (.bool (decide (8 < n))) ∧ w' = w := Any.strings_shouldUseASCIISet Sh.lays226 n w
def Sh.lays153_ren : Go.Shelf.Ren := ⟨fun | 153 => 110 | 152 => 112 | 226 => 113 | 227 => 114 | 228 => 115 | 137 => 120 | 119 => 121 | 224 => 118 | 225 => 117 | 217 => 116 | 266 => 122 | n => n, fun | 9 => 9 | 3 => 3 | 4 => 4 | 5 => 5 | 21 => 21 | 117 => 130 | 116 => 129 | 0 => 0 | 46 => 79 | 124 => 136 | n => n, fun | n => n⟩
theorem Sh.lays153 : Go.Proofs.Lays.n153 Tryd.prog Sh.lays153_ren := {
  mixed := by kernel_rfl
  f119 := Tryd.func121.trans (congrArg some (by kernel_rfl))
  f137 := Tryd.func120.trans (congrArg some (by kernel_rfl))
  f152 := Tryd.func112.trans (congrArg some (by kernel_rfl))
  f153 := Tryd.func110.trans (congrArg some (by kernel_rfl))
  f217 := Tryd.func116.trans (congrArg some (by kernel_rfl))
  f224 := Tryd.func118.trans (congrArg some (by kernel_rfl))
  f225 := Tryd.func117.trans (congrArg some (by kernel_rfl))
  f226 := Tryd.func113.trans (congrArg some (by kernel_rfl))
  f227 := Tryd.func114.trans (congrArg some (by kernel_rfl))
  f228 := Tryd.func115.trans (congrArg some (by kernel_rfl))
  f266 := Tryd.func122.trans (congrArg some (by kernel_rfl))
  t0 := Tryd.underlying0
  a0 := Tryd.isAgg0
  z0 := Tryd.sizeOf0
  v0 := Tryd.zeroValue0
  t3 := Tryd.underlying3
  a3 := Tryd.isAgg3
  z3 := Tryd.sizeOf3
  v3 := Tryd.zeroValue3
  t4 := Tryd.underlying4
  a4 := Tryd.isAgg4
  z4 := Tryd.sizeOf4
  v4 := Tryd.zeroValue4
  t5 := Tryd.underlying5
  a5 := Tryd.isAgg5
  z5 := Tryd.sizeOf5
  v5 := Tryd.zeroValue5
  t9 := Tryd.underlying9
  a9 := Tryd.isAgg9
  z9 := Tryd.sizeOf9
  v9 := Tryd.zeroValue9
  t21 := Tryd.underlying21
  a21 := Tryd.isAgg21
  z21 := Tryd.sizeOf21
  v21 := Tryd.zeroValue21
  t46 := Tryd.underlying79
  a46 := Tryd.isAgg79
  z46 := Tryd.sizeOf79
  v46 := Tryd.zeroValue79
  t116 := Tryd.underlying129
  a116 := Tryd.isAgg129
  z116 := Tryd.sizeOf129
  t117 := Tryd.underlying130
  a117 := Tryd.isAgg130
  z117 := Tryd.sizeOf130
  v117 := Tryd.zeroValue130
  t124 := Tryd.underlying136
  a124 := Tryd.isAgg136
  z124 := Tryd.sizeOf136
  v124 := Tryd.zeroValue136 }
open Go.RowKit Go.Lib in
theorem Sh.strings_IndexAny_none (s chars : ByteArray) (w : World) (h0 : chars.size = 0) :
    Calls Tryd.prog 110 #[.string s, .string chars] w fun e w' => e = .returned (.int .i64 (Lib.indexAny s.data.toList chars.data.toList)) ∧ w' = w := Any.strings_IndexAny_none Sh.lays153 s chars w h0
open Go.RowKit Go.Lib in
theorem Sh.strings_IndexAny_one (s chars : ByteArray) (w : World) (h1 : chars.size = 1) (hascii : ∀ (j : Nat) b, chars.data.toList[j]? = some b → b.toNat < 128) :
    Calls Tryd.prog 110 #[.string s, .string chars] w fun e w' => e = .returned (.int .i64 (Lib.indexAny s.data.toList chars.data.toList)) ∧ w' = w := Any.strings_IndexAny_one Sh.lays153 s chars w h1 hascii
open Go.RowKit Go.Lib in
theorem Sh.strings_IndexAny_short (s chars : ByteArray) (w : World) (h2 : 2 ≤ chars.size) (h8 : s.size ≤ 8) (hascii : ∀ (j : Nat) b, s.data.toList[j]? = some b → b.toNat < 128) :
    Calls Tryd.prog 110 #[.string s, .string chars] w fun e w' => e = .returned (.int .i64 (Lib.indexAny s.data.toList chars.data.toList)) ∧ ∃ pos, w' = w.iter s pos := Any.strings_IndexAny_short Sh.lays153 s chars w h2 h8 hascii
def Sh.lays227_ren : Go.Shelf.Ren := ⟨fun | 227 => 114 | n => n, fun | 9 => 9 | 116 => 129 | 4 => 4 | 0 => 0 | 3 => 3 | 5 => 5 | n => n, fun | n => n⟩
theorem Sh.lays227 : Go.Proofs.Lays.n227 Tryd.prog Sh.lays227_ren := {
  mixed := by kernel_rfl
  f227 := Tryd.func114.trans (congrArg some (by kernel_rfl))
  t0 := Tryd.underlying0
  a0 := Tryd.isAgg0
  z0 := Tryd.sizeOf0
  v0 := Tryd.zeroValue0
  t3 := Tryd.underlying3
  a3 := Tryd.isAgg3
  z3 := Tryd.sizeOf3
  v3 := Tryd.zeroValue3
  t4 := Tryd.underlying4
  a4 := Tryd.isAgg4
  z4 := Tryd.sizeOf4
  v4 := Tryd.zeroValue4
  t5 := Tryd.underlying5
  a5 := Tryd.isAgg5
  z5 := Tryd.sizeOf5
  v5 := Tryd.zeroValue5
  t9 := Tryd.underlying9
  a9 := Tryd.isAgg9
  z9 := Tryd.sizeOf9
  v9 := Tryd.zeroValue9
  t116 := Tryd.underlying129
  a116 := Tryd.isAgg129
  z116 := Tryd.sizeOf129 }
open Go.RowKit Go.Lib in
theorem Sh.strings_makeASCIISet (hv116 : ∀ w, (zeroValue 129).run Tryd.prog w = .ok (.agg (Array.replicate 256 (.bool false))) w) (chars : ByteArray) (w : World) (hs : chars.size < 4294967281) (hascii : ∀ (j : Nat) b, chars.data.toList[j]? = some b → b.toNat < 128) :
    Calls Tryd.prog 114 #[.string chars] w fun e w' => e = .returned (.tuple #[.agg (Lib.setCells chars.data.toList), .bool true]) ∧ w' = w.alloc (.cells (Lib.setCells chars.data.toList) 129) := Any.strings_makeASCIISet Sh.lays227 hv116 (by kernel_rfl) chars w hs hascii
def Sh.lays228_ren : Go.Shelf.Ren := ⟨fun | 228 => 115 | n => n, fun | 124 => 136 | 5 => 5 | 4 => 4 | 0 => 0 | 116 => 129 | n => n, fun | n => n⟩
theorem Sh.lays228 : Go.Proofs.Lays.n228 Tryd.prog Sh.lays228_ren := {
  mixed := by kernel_rfl
  f228 := Tryd.func115.trans (congrArg some (by kernel_rfl))
  t0 := Tryd.underlying0
  a0 := Tryd.isAgg0
  z0 := Tryd.sizeOf0
  v0 := Tryd.zeroValue0
  t4 := Tryd.underlying4
  a4 := Tryd.isAgg4
  z4 := Tryd.sizeOf4
  v4 := Tryd.zeroValue4
  t5 := Tryd.underlying5
  a5 := Tryd.isAgg5
  z5 := Tryd.sizeOf5
  v5 := Tryd.zeroValue5
  t116 := Tryd.underlying129
  a116 := Tryd.isAgg129
  z116 := Tryd.sizeOf129
  t124 := Tryd.underlying136
  a124 := Tryd.isAgg136
  z124 := Tryd.sizeOf136
  v124 := Tryd.zeroValue136 }
open Go.RowKit Go.Lib in
theorem Sh.asciiSet_contains (b : Nat) (x : UInt8) (v : Bool) (w : World) (hc : w.cell? ⟨b, x.toNat, none⟩ = some (.bool v)) :
    Calls Tryd.prog 115 #[.pointer (some ⟨b, 0, none⟩), .int .u8 x.toNat] w fun e w' => e = .returned (.bool v) ∧ w' = w := Any.asciiSet_contains Sh.lays228 b x v w hc
open Go.RowKit Go.Lib in
theorem Sh.strings_IndexAny_long (hv116 : ∀ w, (zeroValue 129).run Tryd.prog w = .ok (.agg (Array.replicate 256 (.bool false))) w) (s chars : ByteArray) (w : World) (h2 : 2 ≤ chars.size) (h8 : 8 < s.size) (hs : s.size < 4294967281) (hcs : chars.size < 4294967281) (hascii : ∀ (j : Nat) b, chars.data.toList[j]? = some b → b.toNat < 128) :
    Calls Tryd.prog 110 #[.string s, .string chars] w fun e w' => e = .returned (.int .i64 (Lib.indexAny s.data.toList chars.data.toList)) ∧ w' = ((w.alloc (.cells (Lib.setCells chars.data.toList) 129)).alloc (.cells (Lib.setCells chars.data.toList) 129)) := Any.strings_IndexAny_long Sh.lays153 hv116 (by kernel_rfl) s chars w h2 h8 hs hcs hascii
open Go.RowKit Go.Lib in
theorem Sh.strings_IndexAny (hv116 : ∀ w, (zeroValue 129).run Tryd.prog w = .ok (.agg (Array.replicate 256 (.bool false))) w) (s chars : ByteArray) (w : World) (hs : s.size < 4294967281) (hcs : chars.size < 4294967281) (has : ∀ (j : Nat) b, s.data.toList[j]? = some b → b.toNat < 128) (hac : ∀ (j : Nat) b, chars.data.toList[j]? = some b → b.toNat < 128) :
    Calls Tryd.prog 110 #[.string s, .string chars] w fun e w' => e = .returned (.int .i64 (Lib.indexAny s.data.toList chars.data.toList)) ∧ Below w.heap.size w w' := Any.strings_IndexAny Sh.lays153 hv116 (by kernel_rfl) s chars w hs hcs has hac
def Sh.lays150_ren : Go.Shelf.Ren := ⟨fun | 150 => 108 | 153 => 110 | 152 => 112 | 226 => 113 | 227 => 114 | 228 => 115 | 137 => 120 | 119 => 121 | 224 => 118 | 225 => 117 | 217 => 116 | 266 => 122 | n => n, fun | 9 => 9 | 4 => 4 | 3 => 3 | 5 => 5 | 21 => 21 | 117 => 130 | 116 => 129 | 0 => 0 | 46 => 79 | 124 => 136 | n => n, fun | n => n⟩
theorem Sh.lays150 : Go.Proofs.Lays.n150 Tryd.prog Sh.lays150_ren := {
  mixed := by kernel_rfl
  f119 := Tryd.func121.trans (congrArg some (by kernel_rfl))
  f137 := Tryd.func120.trans (congrArg some (by kernel_rfl))
  f150 := Tryd.func108.trans (congrArg some (by kernel_rfl))
  f152 := Tryd.func112.trans (congrArg some (by kernel_rfl))
  f153 := Tryd.func110.trans (congrArg some (by kernel_rfl))
  f217 := Tryd.func116.trans (congrArg some (by kernel_rfl))
  f224 := Tryd.func118.trans (congrArg some (by kernel_rfl))
  f225 := Tryd.func117.trans (congrArg some (by kernel_rfl))
  f226 := Tryd.func113.trans (congrArg some (by kernel_rfl))
  f227 := Tryd.func114.trans (congrArg some (by kernel_rfl))
  f228 := Tryd.func115.trans (congrArg some (by kernel_rfl))
  f266 := Tryd.func122.trans (congrArg some (by kernel_rfl))
  t0 := Tryd.underlying0
  a0 := Tryd.isAgg0
  z0 := Tryd.sizeOf0
  v0 := Tryd.zeroValue0
  t3 := Tryd.underlying3
  a3 := Tryd.isAgg3
  z3 := Tryd.sizeOf3
  v3 := Tryd.zeroValue3
  t4 := Tryd.underlying4
  a4 := Tryd.isAgg4
  z4 := Tryd.sizeOf4
  v4 := Tryd.zeroValue4
  t5 := Tryd.underlying5
  a5 := Tryd.isAgg5
  z5 := Tryd.sizeOf5
  v5 := Tryd.zeroValue5
  t9 := Tryd.underlying9
  a9 := Tryd.isAgg9
  z9 := Tryd.sizeOf9
  v9 := Tryd.zeroValue9
  t21 := Tryd.underlying21
  a21 := Tryd.isAgg21
  z21 := Tryd.sizeOf21
  v21 := Tryd.zeroValue21
  t46 := Tryd.underlying79
  a46 := Tryd.isAgg79
  z46 := Tryd.sizeOf79
  v46 := Tryd.zeroValue79
  t116 := Tryd.underlying129
  a116 := Tryd.isAgg129
  z116 := Tryd.sizeOf129
  t117 := Tryd.underlying130
  a117 := Tryd.isAgg130
  z117 := Tryd.sizeOf130
  v117 := Tryd.zeroValue130
  t124 := Tryd.underlying136
  a124 := Tryd.isAgg136
  z124 := Tryd.sizeOf136
  v124 := Tryd.zeroValue136 }
open Go.RowKit Go.Lib in
theorem Sh.strings_ContainsAny (hv116 : ∀ w, (zeroValue 129).run Tryd.prog w = .ok (.agg (Array.replicate 256 (.bool false))) w) (s chars : ByteArray) (w : World) (hs : s.size < 4294967281) (hcs : chars.size < 4294967281) (has : ∀ (j : Nat) b, s.data.toList[j]? = some b → b.toNat < 128) (hac : ∀ (j : Nat) b, chars.data.toList[j]? = some b → b.toNat < 128) :
    Calls Tryd.prog 108 #[.string s, .string chars] w fun e w' => e = .returned (.bool (Lib.containsAny s.data.toList chars.data.toList)) ∧ Below w.heap.size w w' := Any.strings_ContainsAny Sh.lays150 hv116 (by kernel_rfl) s chars w hs hcs has hac
open Go.RowKit Go.Lib in
theorem Sh.strings_IndexAny_laid (s chars : ByteArray) (w : World) (hs : s.size < 4294967281) (hcs : chars.size < 4294967281) (has : ∀ (j : Nat) b, s.data.toList[j]? = some b → b.toNat < 128) (hac : ∀ (j : Nat) b, chars.data.toList[j]? = some b → b.toNat < 128) :
    Calls Tryd.prog 110 #[.string s, .string chars] w fun e w' => e = .returned (.int .i64 (Lib.indexAny s.data.toList chars.data.toList)) ∧ Below w.heap.size w w' := Any.strings_IndexAny_laid Sh.lays153 (by kernel_rfl) s chars w hs hcs has hac
open Go.RowKit Go.Lib in
theorem Sh.strings_ContainsAny_laid (s chars : ByteArray) (w : World) (hs : s.size < 4294967281) (hcs : chars.size < 4294967281) (has : ∀ (j : Nat) b, s.data.toList[j]? = some b → b.toNat < 128) (hac : ∀ (j : Nat) b, chars.data.toList[j]? = some b → b.toNat < 128) :
    Calls Tryd.prog 108 #[.string s, .string chars] w fun e w' => e = .returned (.bool (Lib.containsAny s.data.toList chars.data.toList)) ∧ Below w.heap.size w w' := Any.strings_ContainsAny_laid Sh.lays150 (by kernel_rfl) s chars w hs hcs has hac
def Sh.lays196_ren : Go.Shelf.Ren := ⟨fun | 196 => 75 | 259 => 101 | n => n, fun | 9 => 9 | 4 => 4 | 3 => 3 | 5 => 5 | 12 => 12 | 119 => 119 | 0 => 0 | 46 => 79 | 139 => 122 | 138 => 121 | 53 => 124 | n => n, fun | 3 => 0 | 4 => 1 | n => n⟩
theorem Sh.lays196 : Go.Proofs.Lays.n196 Tryd.prog Sh.lays196_ren := {
  mixed := by kernel_rfl
  f196 := Tryd.func75.trans (congrArg some (by kernel_rfl))
  f259 := Tryd.func101.trans (congrArg some (by kernel_rfl))
  t0 := Tryd.underlying0
  a0 := Tryd.isAgg0
  z0 := Tryd.sizeOf0
  v0 := Tryd.zeroValue0
  t3 := Tryd.underlying3
  a3 := Tryd.isAgg3
  z3 := Tryd.sizeOf3
  v3 := Tryd.zeroValue3
  t4 := Tryd.underlying4
  a4 := Tryd.isAgg4
  z4 := Tryd.sizeOf4
  v4 := Tryd.zeroValue4
  t5 := Tryd.underlying5
  a5 := Tryd.isAgg5
  z5 := Tryd.sizeOf5
  v5 := Tryd.zeroValue5
  t9 := Tryd.underlying9
  a9 := Tryd.isAgg9
  z9 := Tryd.sizeOf9
  v9 := Tryd.zeroValue9
  t12 := Tryd.underlying12
  a12 := Tryd.isAgg12
  z12 := Tryd.sizeOf12
  v12 := Tryd.zeroValue12
  t46 := Tryd.underlying79
  a46 := Tryd.isAgg79
  z46 := Tryd.sizeOf79
  v46 := Tryd.zeroValue79
  t53 := Tryd.underlying124
  a53 := Tryd.isAgg124
  z53 := Tryd.sizeOf124
  v53 := Tryd.zeroValue124
  t119 := Tryd.underlying119
  a119 := Tryd.isAgg119
  z119 := Tryd.sizeOf119
  t138 := Tryd.underlying121
  a138 := Tryd.isAgg121
  z138 := Tryd.sizeOf121
  v138 := Tryd.zeroValue121
  t139 := Tryd.underlying122
  a139 := Tryd.isAgg122
  z139 := Tryd.sizeOf122
  v139 := Tryd.zeroValue122
  g3 := by kernel_rfl
  g4 := by kernel_rfl }
open Go.RowKit Go.Lib in
theorem Sh.utf8_ValidString (s : ByteArray) (w : World) (hs : s.size ≤ 9223372036854775807) (hT : Lib.Utf8Tabs (Sh.lays196_ren.g 3) (Sh.lays196_ren.g 4) w) :
    Calls Tryd.prog 75 #[.string s] w fun e w' => e = .returned (.bool (Lib.validD s.data.toList)) ∧ Below w.heap.size w w' := Any.utf8_ValidString Sh.lays196 s w hs hT
end Go.Proofs.YtkcdkjpmbjcmdaaDoor

/-
  Words for memory, without a program: a slice value that reads as a list of cells; what is kept of it over new blocks, draws and stores elsewhere.
-/
namespace Go.Proofs.YtkcdkjpmbjcmdaaDoor
open Go.RowKit

theorem block_of_add (a : Addr) (n : Nat) : (a.add n).block = a.block := by unfold Addr.add; split <;> rfl
theorem add_of_add (a : Addr) (i j : Nat) : (a.add i).add j = a.add (i + j) := by
  unfold Addr.add
  by_cases hi : i = 0 <;> by_cases hj : j = 0 <;> simp [hi, hj, Nat.add_assoc]

/-- the slice value '.slice A n c' reads as the cells xs ('size' cells an element), in blocks below B. -/
def Reads (w : World) (B size : Nat) (A : Option Addr) (n : Nat) (xs : List Value) : Prop :=
  xs.length = n * size ∧ (0 < n → ∃ ad, A = some ad ∧ ad.block < B ∧ ∀ j u, xs[j]? = some u → w.cell? (ad.add j) = some u)

section
variable {w w' : World} {B B' size n : Nat} {A : Option Addr} {xs : List Value}
theorem Reads.none_ : Reads w B size A 0 [] := ⟨by simp, fun h => absurd h (by omega)⟩
theorem Reads.at_ {k : Nat} (h : Reads w B 1 A n xs) (hk : k < n) : ∃ ad u, A = some ad ∧ ad.block < B ∧ xs[k]? = some u ∧ w.cell? (ad.add k) = some u := by
  obtain ⟨ad, e, hb, hc⟩ := h.2 (by omega)
  have hl : k < xs.length := by have := h.1; omega
  exact ⟨ad, xs[k], e, hb, List.getElem?_eq_getElem hl, hc k _ (List.getElem?_eq_getElem hl)⟩
theorem Reads.keep (h : Reads w B size A n xs) (hk : ∀ p : Addr, p.block < B → w'.cell? p = w.cell? p) : Reads w' B size A n xs :=
  ⟨h.1, fun hn => by
    obtain ⟨ad, e, hb, hc⟩ := h.2 hn
    exact ⟨ad, e, hb, fun j u hu => (hk _ (by rw [block_of_add]; exact hb)).trans (hc j u hu)⟩⟩
theorem Reads.more (h : Reads w B size A n xs) (hB : B ≤ B') : Reads w B' size A n xs :=
  ⟨h.1, fun hn => by
    obtain ⟨ad, e, hb, hc⟩ := h.2 hn
    exact ⟨ad, e, by omega, hc⟩⟩
theorem Reads.below (h : Reads w B size A n xs) (hb : Below B w w') : Reads w' B size A n xs := h.keep fun _ hp => hb.cell hp
theorem Reads.drewN (h : Reads w B size A n xs) (k : Nat) : Reads (w.drewN k) B size A n xs := h
theorem Reads.cut (h : Reads w B size A n xs) {k cap : Nat} (hk : k ≤ n) (hc : n ≤ cap) :
    Reads w B size (if cap = k then A else A.map (·.add (k * size))) (n - k) (xs.drop (k * size)) := by
  refine ⟨by rw [List.length_drop, h.1, Nat.sub_mul], fun hn => ?_⟩
  obtain ⟨ad, rfl, hb, hcell⟩ := h.2 (by omega)
  rw [if_neg (by omega)]
  refine ⟨ad.add (k * size), rfl, by rw [block_of_add]; exact hb, fun j u hu => ?_⟩
  rw [add_of_add]
  exact hcell _ u (by rw [← hu, List.getElem?_drop])
theorem Reads.of_own {base : Nat} {e : TypeId} {c : Nat} (h : w.ownsRow base e size (.slice A n c) n xs) : Reads w w.heap.size size A n xs := by
  refine ⟨h.1, fun hn => ?_⟩
  obtain ⟨g, cap, hv, _, hlt⟩ := h.form hn
  have hA : A = some ⟨g, 0, none⟩ := by injection hv
  subst hA
  exact ⟨_, rfl, hlt, h.cells (g := g) rfl⟩
end

/-- a byte's cell -/
abbrev bv (x : UInt8) : Value := .int .u8 (x.toNat : Int)

/-- the slice value '.slice A xs.length c' reads as the bytes xs, in blocks below B -/
def RB (w : World) (B : Nat) (A : Option Addr) (xs : List UInt8) : Prop := Reads w B 1 A xs.length (xs.map bv)

section
variable {w w' : World} {B B' : Nat} {A : Option Addr} {xs : List UInt8}
theorem RB.at_ {k : Nat} (h : RB w B A xs) (hk : k < xs.length) : ∃ ad x, A = some ad ∧ ad.block < B ∧ xs[k]? = some x ∧ w.cell? (ad.add k) = some (.int .u8 (x.toNat : Int)) := by
  obtain ⟨ad, u, hA, hb, hu, hc⟩ := Reads.at_ h hk
  refine ⟨ad, xs[k], hA, hb, List.getElem?_eq_getElem hk, ?_⟩
  rw [List.getElem?_map, List.getElem?_eq_getElem hk] at hu
  simp only [Option.map_some, Option.some.injEq] at hu
  rw [hc, ← hu]
/-- the same, with the address written out. -/
theorem RB.get {k : Nat} (h : RB w B A xs) (hk : k < xs.length) : ∃ b o x, A = some ⟨b, o, none⟩ ∧ b < B ∧ xs[k]? = some x ∧ w.cell? ⟨b, o + k, none⟩ = some (.int .u8 (x.toNat : Int)) := by
  obtain ⟨ad, x, hA, hb, hx, hc⟩ := h.at_ hk
  obtain ⟨ad0, x0, hA0, _, _, hc0⟩ := h.at_ (k := 0) (by omega)
  rw [hA] at hA0
  injection hA0 with hA0
  subst hA0
  obtain ⟨b, o, spot⟩ := ad
  have hspot : spot = none := by
    have := World.cell?_spot hc0
    simpa [Addr.add] using this
  subst hspot
  refine ⟨b, o, x, hA, hb, hx, ?_⟩
  rw [← hc]
  congr 1
  unfold Addr.add
  by_cases h1 : k = 0
  · rw [if_pos h1, h1]; simp
  · rw [if_neg h1]
theorem RB.same_at {b o b' o' : Nat} (h : A = some ⟨b, o, none⟩) (h' : A = some ⟨b', o', none⟩) : b' = b ∧ o' = o := by
  rw [h] at h'
  injection h' with h'
  injection h' with h1 h2
  exact ⟨h1.symm, h2.symm⟩
theorem RB.keep (h : RB w B A xs) (hk : ∀ p : Addr, p.block < B → w'.cell? p = w.cell? p) : RB w' B A xs := Reads.keep h hk
theorem RB.more (h : RB w B A xs) (hB : B ≤ B') : RB w B' A xs := Reads.more h hB
theorem RB.below (h : RB w B A xs) (hb : Below B w w') : RB w' B A xs := Reads.below h hb
theorem RB.drewN (h : RB w B A xs) (k : Nat) : RB (w.drewN k) B A xs := h
theorem RB.nil : RB w B A [] := ⟨by simp, fun h => by simp at h⟩
/-- what is read below the heap's size is read behind a step that leaves old memory alone, wherever the bound lies. -/
theorem RB.next (h : RB w w.heap.size A xs) (hb : Below w.heap.size w w') : RB w' w'.heap.size A xs := (h.below hb).more hb.size
theorem RB.of_own {base : Nat} {e : TypeId} {c : Nat} (h : w.ownsRow base e 1 (.slice A xs.length c) xs.length (xs.map bv)) : RB w w.heap.size A xs := Reads.of_own h
end

/-- a block that was just laid, read whole (a literal). -/
theorem RB.lit (w : World) (e : TypeId) (C : Array Value) (fr : Nat × Nat) (xs : List UInt8) (h : C.toList = xs.map bv) : RB (w.alloc (.cells C e fr)) (w.alloc (.cells C e fr)).heap.size (some ⟨w.heap.size, 0, none⟩) xs := by
  refine ⟨by simp, fun _ => ⟨_, rfl, by simp, fun j u hu => ?_⟩⟩
  rw [← h] at hu
  have h1 : (w.alloc (.cells C e fr)).heap[w.heap.size]? = some (.cells C e fr) := by
    show (w.heap.push (.cells C e fr))[w.heap.size]? = _
    simp
  have h2 : ((⟨w.heap.size, 0, none⟩ : Addr).add j) = ⟨w.heap.size, j, none⟩ := by
    unfold Addr.add
    by_cases hj : j = 0 <;> simp [hj]
  rw [h2]
  unfold World.cell?
  simp only [h1]
  simpa using hu
theorem RB.litn (w : World) (g : Nat) (hg : w.heap.size = g) (e : TypeId) (C : Array Value) (fr : Nat × Nat) (xs : List UInt8) (h : C.toList = xs.map bv) : RB (w.alloc (.cells C e fr)) (w.alloc (.cells C e fr)).heap.size (some ⟨g, 0, none⟩) xs := by
  subst hg
  exact RB.lit w e C fr xs h
theorem RB.take {w : World} {B : Nat} {A : Option Addr} {xs : List UInt8} (h : RB w B A xs) (j : Nat) : RB w B A (xs.take j) := by
  refine ⟨by simp, fun hn => ?_⟩
  rw [List.length_take] at hn
  obtain ⟨ad, hA, hb, hc⟩ := h.2 (by omega)
  refine ⟨ad, hA, hb, fun i u hu => hc i u ?_⟩
  rw [List.map_take] at hu
  rw [List.getElem?_take] at hu
  split at hu
  · exact hu
  · cases hu
theorem RB.cut {w : World} {B : Nat} {A : Option Addr} {xs : List UInt8} (h : RB w B A xs) {k cap : Nat} (hk : k ≤ xs.length) (hc : xs.length ≤ cap) : RB w B (if cap = k then A else A.map (·.add k)) (xs.drop k) := by
  have := Reads.cut (cap := cap) h hk hc
  simp only [Nat.mul_one] at this
  unfold RB
  rw [List.length_drop, List.map_drop]
  exact this
theorem RB.cutlt {w : World} {B : Nat} {A : Option Addr} {xs : List UInt8} (h : RB w B A xs) {k : Nat} (hk : k < xs.length) : RB w B (A.map (·.add k)) (xs.drop k) := by
  have := h.cut (k := k) (cap := xs.length) (by omega) (Nat.le_refl _)
  rwa [if_neg (by omega)] at this
theorem RB.cut_at {w : World} {B g o : Nat} {xs : List UInt8} (h : RB w B (some ⟨g, o, none⟩) xs) {k : Nat} (hk : k < xs.length) : RB w B (some ⟨g, o + k, none⟩) (xs.drop k) := by
  have := h.cutlt hk
  have e : ((some ⟨g, o, none⟩ : Option Addr).map (·.add k)) = some ⟨g, o + k, none⟩ := by
    simp only [Option.map_some, Option.some.injEq]
    unfold Addr.add
    by_cases h0 : k = 0
    · rw [if_pos h0, h0]; simp
    · rw [if_neg h0]
  rwa [e] at this
theorem below_drewN {B : Nat} {a w : World} (h : Below B a w) (n : Nat) : Below B a (w.drewN n) := ⟨h.os, h.tape, h.output, h.size, h.block⟩
theorem below_of_drewN {w w' : World} (h : ∃ n, w' = w.drewN n) : Below w.heap.size w w' := by
  obtain ⟨n, rfl⟩ := h
  exact below_drewN (Below.refl _ _) n
theorem bcell {W w1 : World} (hb : Below W.heap.size W w1) : (∀ b o, b < W.heap.size → w1.cell? ⟨b, o, none⟩ = W.cell? ⟨b, o, none⟩) ∧ (∀ b o, b < W.heap.size → w1.frozen? ⟨b, o, none⟩ = W.frozen? ⟨b, o, none⟩) :=
  ⟨fun b o h => hb.cell (p := ⟨b, o, none⟩) h, fun b o h => hb.frozen (p := ⟨b, o, none⟩) h⟩

section
variable {w w' : World} {base : Nat} {e : TypeId} {size : Nat} {v : Value} {n : Nat} {xs : List Value}
theorem own_base {base' : Nat} (h : w.ownsRow base e size v n xs) (hb : base' ≤ base) : w.ownsRow base' e size v n xs := by
  obtain ⟨h1, h2⟩ := h
  refine ⟨h1, ?_⟩
  rcases h2 with h2 | ⟨g, cap, cur, hv, hg, r⟩
  · exact Or.inl h2
  · exact Or.inr ⟨g, cap, cur, hv, by omega, r⟩
theorem own_below (h : w.ownsRow base e size v n xs) (hb : Below w.heap.size w w') : w'.ownsRow base e size v n xs := by
  obtain ⟨h1, h2⟩ := h
  refine ⟨h1, ?_⟩
  rcases h2 with h2 | ⟨g, cap, cur, hv, hg, hh, r⟩
  · exact Or.inl h2
  · refine Or.inr ⟨g, cap, cur, hv, hg, ?_, r⟩
    have hlt : g < w.heap.size := by
      rcases Nat.lt_or_ge g w.heap.size with hlt | hge
      · exact hlt
      · rw [Array.getElem?_eq_none hge] at hh; cases hh
    rw [hb.block g hlt]; exact hh
theorem own_shape (h : w.ownsRow base e size v n xs) : ∃ A c, v = .slice A n c ∧ n ≤ c ∧ c ≤ maxLen := by
  rcases h.2 with ⟨hv, hn⟩ | ⟨g, cap, cur, hv, hg, hh, hc, hm, _⟩
  · exact ⟨none, 0, by rw [hv, hn], by omega, by decide⟩
  · exact ⟨_, cap, hv, hc, hm⟩
end

/-- append of ONE one-cell element: the new block of the one element stands, the append follows. -/
theorem wpList_append1 {P : Program} {w0 w : World} {ops : Array Oper} {rest : List Oper} {o : Oper} {a : Act} {Q : Exit → Act → World → Prop} (B : Nat) (hb : Below B w0 w) (hgd : o.guard = none) (s x : Operand) (t : TypeId)
    (ho : o.op = .call { callee := .builtin .append, args := #[s, x], argTypes := #[t, t] })
    (base : Nat) (e : TypeId) (z : Value) (bytes : Nat) (ht : P.underlying t = some (.slice e)) (hi : (P.info? e).map (fun i => (i.zero, i.size, i.bytes)) = some (some z, 1, bytes)) (hzs : z.cells.size = 1)
    (v : Value) (n : Nat) (xs : List Value) (hs : a.eval s = v) (hown : w.ownsRow base e 1 v n xs) (u : Value) (hx : a.eval x = .slice (some ⟨w.heap.size, 0, none⟩) 1 1) (hu : u.oneCell' = true)
    (hn : (n + 1) * bytes ≤ 140737488355328) (hn2 : n + 1 ≤ maxLen) (hbase : base ≤ w.heap.size) (hB : B ≤ base)
    (h : ∀ A c w', w'.ownsRow base e 1 (.slice A (n + 1) c) (n + 1) (xs ++ [u]) → Below B w0 w' → wpList P ops Q rest (a.put o.dst (.slice A (n + 1) c)) w') :
    wpList P ops Q (o :: rest) a (w.alloc (.cells #[u] e)) := by
  obtain ⟨i0, hi0, hz0, hz1, hz2⟩ := info_parts hi
  refine wpList_append_own _ hgd s x t ho base e i0 z 1 bytes ht hi0 hz0 hz1 hz2 hzs (by decide) v n xs hs (hown.alloc _) ⟨w.heap.size, 0, none⟩ 1 1 [u] hx rfl ?_ ?_ hn2 hn (by simp; omega) ?_
  · intro j u' hj
    match j, hj with
    | 0, hj => simp at hj; subst hj; simp [Addr.add]
  · intro u' hu'; simp at hu'; subst hu'; exact hu
  · intro v' w' hown' hg _
    obtain ⟨A, c, rfl, _, _⟩ := own_shape hown'
    refine h A c w' hown' ?_
    refine (hb.alloc (by omega) _).grown hg (by simp; omega) ?_
    intro k hk
    exact Nat.le_trans hB (hown.lt k hk).1

theorem drop_get' {α : Type} (xs : List α) (k : Nat) (x : α) (h : xs[k]? = some x) : xs.drop k = x :: xs.drop (k + 1) := by
  have hk : k < xs.length := by
    rcases Nat.lt_or_ge k xs.length with h1 | h1
    · exact h1
    · rw [List.getElem?_eq_none h1] at h; cases h
  rw [List.drop_eq_getElem_cons hk]
  rw [List.getElem?_eq_getElem hk] at h
  simp at h; rw [h]
theorem take_snoc? {α : Type} (xs : List α) (k : Nat) (x : α) (h : xs[k]? = some x) : xs.take (k + 1) = xs.take k ++ [x] := by
  have hk : k < xs.length := by
    rcases Nat.lt_or_ge k xs.length with h1 | h1
    · exact h1
    · rw [List.getElem?_eq_none h1] at h; cases h
  rw [List.take_succ_eq_append_getElem hk]
  rw [List.getElem?_eq_getElem hk] at h
  simp at h; rw [h]

/-- what a store into block g leaves of the rest. -/
structure Only (g : Nat) (w w' : World) : Prop where
  cell : ∀ a : Addr, a.block ≠ g → w'.cell? a = w.cell? a
  size : w'.heap.size = w.heap.size
  below : ∀ B W0, Below B W0 w → B ≤ g → Below B W0 w'
theorem Only.refl (g : Nat) (w : World) : Only g w w := ⟨fun _ _ => rfl, rfl, fun _ _ h _ => h⟩
theorem Only.set {g : Nat} {w w' : World} (h : Only g w w') (p : Nat) (v : Value) : Only g w (w'.setCell ⟨g, p, none⟩ v) :=
  ⟨fun a hb => (World.cell?_setCell_other w' _ _ _ (by intro h; exact hb (by rw [← h]))).trans (h.cell a hb), by rw [← h.size]; simp [World.setCell],
    fun B W0 hb hB => (h.below B W0 hb hB).setCell (p := ⟨g, p, none⟩) hB _⟩
theorem Only.trans {g : Nat} {w w' w'' : World} (h : Only g w w') (k : Only g w' w'') : Only g w w'' :=
  ⟨fun a hb => (k.cell a hb).trans (h.cell a hb), k.size.trans h.size, fun B W0 hb hB => k.below B W0 (h.below B W0 hb hB) hB⟩
theorem Only.drew {g : Nat} {w w' : World} (h : Only g w w') : Only g w w'.drew := ⟨h.cell, h.size, fun B W0 hb hB => (h.below B W0 hb hB).drew⟩
theorem RB.only {w w' : World} {B g : Nat} {A : Option Addr} {xs : List UInt8} (h : RB w B A xs) (hO : Only g w w') (hg : B ≤ g) : RB w' B A xs :=
  h.keep fun p hp => hO.cell p (by omega)

end Go.Proofs.YtkcdkjpmbjcmdaaDoor

/-
  The walks of EqBytes and Within.
-/
namespace Go.Proofs.YtkcdkjpmbjcmdaaDoor
open Go.RowKit

theorem quiet_add {P : Program} {f : FuncId} {args : Array Value} {w : World} {a n : Nat} {v : Value}
    (h : Calls P f args (w.drewN (a + n)) fun e w' => e = .returned v ∧ ∃ m, w' = (w.drewN (a + n)).drewN m) :
    Calls P f args (w.drewN (a + n)) fun e w'' => e = .returned v ∧ ∃ m, w'' = w.drewN (a + m) :=
  h.mono fun _ _ ⟨he, m, hm⟩ => ⟨he, n + m, by rw [hm, World.drewN_drewN, Nat.add_assoc]⟩
theorem quiet_add_left {P : Program} {f : FuncId} {args : Array Value} {w : World} {a n : Nat} {v : Value}
    (h : Calls P f args (w.drewN (a + n)) fun e w' => e = .returned v ∧ w.drewN (a + n) = w') :
    Calls P f args (w.drewN (a + n)) fun e w'' => e = .returned v ∧ ∃ m, w'' = w.drewN (a + m) :=
  h.mono fun _ _ ⟨he, hm⟩ => ⟨he, n, hm.symm⟩
theorem quiet_left {P : Program} {f : FuncId} {args : Array Value} {w : World} {n : Nat} {v : Value}
    (h : Calls P f args (w.drewN n) fun e w' => e = .returned v ∧ w.drewN n = w') : Calls P f args (w.drewN n) fun e w'' => e = .returned v ∧ ∃ m, w'' = w.drewN m :=
  h.mono fun _ _ ⟨he, hm⟩ => ⟨he, n, hm.symm⟩

def eqL (xs ys : List UInt8) : Bool := decide (xs = ys)
theorem eqL_same (xs : List UInt8) : eqL xs xs = true := by simp [eqL]
theorem eqL_true {xs ys : List UInt8} (h : eqL xs ys = true) : xs = ys := by simpa [eqL] using h
theorem eqL_false {xs ys : List UInt8} (h : xs ≠ ys) : eqL xs ys = false := by simpa [eqL] using h
theorem take_all_eq {xs ys : List UInt8} {k : Nat} (hk : k = xs.length) (hl : xs.length = ys.length) (h : xs.take k = ys.take k) : xs = ys := by
  subst hk
  rw [List.take_length] at h
  rw [hl, List.take_length] at h
  exact h
theorem take_next_eq {xs ys : List UInt8} {k : Nat} {x y : UInt8} (hx : xs[k]? = some x) (hy : ys[k]? = some y) (h : xs.take k = ys.take k) (e : x = y) : xs.take (k + 1) = ys.take (k + 1) := by
  rw [take_snoc? xs k x hx, take_snoc? ys k y hy, h, e]
theorem ne_of_get {xs ys : List UInt8} {k : Nat} {x y : UInt8} (hx : xs[k]? = some x) (hy : ys[k]? = some y) (e : x ≠ y) : xs ≠ ys := by
  rintro rfl
  rw [hx] at hy
  exact e (by simpa using hy)
/-- a quiet answer: draws alone. -/
def Quiet (w : World) (v : Value) (e : Ending) (w' : World) : Prop := e = .returned v ∧ ∃ n, w' = w.drewN n

set_option maxHeartbeats 800000 in
theorem eqBytes_any (xs ys : List UInt8) (A B : Option Addr) (c d : Nat) (w : World) (hx : RB w w.heap.size A xs) (hy : RB w w.heap.size B ys) (hn : xs.length ≤ maxLen) :
    Calls Tryd.prog 28 #[.slice A xs.length c, .slice B ys.length d] w fun e w' => e = .returned (.bool (eqL xs ys)) ∧ ∃ n, w' = w.drewN n := by
  unfold maxLen at hn
  by_cases hl : xs.length = ys.length
  · have hne : (((xs.length : Int)) != ((ys.length : Nat) : Int)) = false := by simp [hl]
    have hl' := Lib.hid hl
    have hlt2 : ∀ k, k < xs.length → k < ys.length := by rw [hl]; exact fun _ h => h
    clear hl
    go_enter Tryd.func28, Tryd.ntmps28
    go_wp2
    go_loopw [5] (fun i wr => ∃ k n : Nat, k ≤ xs.length ∧ i = .int .i64 k ∧ wr = w.drewN n ∧ Hid (xs.take k = ys.take k)) (fun i _ => xs.length - (intOf i).toNat)
    case atStart => exact ⟨0, 0, Nat.zero_le _, rfl, rfl, rfl⟩
    case round =>
      obtain ⟨k, n, hk, rfl, rfl, ht⟩ := hrel
      by_cases hlt : k < xs.length
      · have hlty := hlt2 k hlt
        obtain ⟨ad, u, rfl, hb, hu, hcell⟩ := hx.at_ hlt
        obtain ⟨bd, v, rfl, hb2, hv, hcell2⟩ := hy.at_ hlty
        clear hlt2
        have hu' := Lib.hid hu
        have hv' := Lib.hid hv
        have hi : (k : Int) < (xs.length : Int) := by omega
        have hi2 : (k : Int) < (ys.length : Int) := by omega
        clear hu hv
        by_cases he : u = v
        · have hne2 : (((u.toNat : Int)) != ((v.toNat : Nat) : Int)) = false := by simp [he]
          have HT : Hid (xs.take (k + 1) = ys.take (k + 1)) := take_next_eq hu'.out hv'.out ht.out he
          clear he
          go_wp2_with fail
          go_quiet (fail)
          go_wp2
          go_roundw
          case rel => exact ⟨k + 1, _, by omega, by go_num, rfl, HT⟩
          case measure => simp [intOf]; omega
        · have hne2 : (((u.toNat : Int)) != ((v.toNat : Nat) : Int)) = true := by
            simp only [bne_iff_ne, ne_eq, Int.natCast_inj]
            exact fun h => he (UInt8.toNat_inj.1 h)
          have HT : Hid (eqL xs ys = false) := eqL_false (ne_of_get hu'.out hv'.out he)
          clear he
          go_wp2_with fail
          go_quiet (fail)
          go_wp2
          go_ret
          exact ⟨by rw [HT.out]; rfl, _, by rw [World.drewN_drewN]⟩
      · have HT : Hid (eqL xs ys = true) := by rw [take_all_eq (by omega) hl'.out ht.out]; exact eqL_same _
        go_wp2
        go_ret
        exact ⟨by rw [HT.out]; rfl, _, rfl⟩
  · have hne : (((xs.length : Int)) != ((ys.length : Nat) : Int)) = true := by
      simp only [bne_iff_ne, ne_eq, Int.natCast_inj]; exact hl
    have HT : Hid (eqL xs ys = false) := eqL_false (fun h => hl (by rw [h]))
    clear hl
    go_enter Tryd.func28, Tryd.ntmps28
    go_wp2
    go_ret
    exact ⟨by rw [HT.out]; rfl, 0, rfl⟩

theorem eqBytes (xs : List UInt8) (A B : Option Addr) (c d : Nat) (w : World) (hx : RB w w.heap.size A xs) (hy : RB w w.heap.size B xs) (hn : xs.length ≤ maxLen) :
    Calls Tryd.prog 28 #[.slice A xs.length c, .slice B xs.length d] w fun e w' => e = .returned (.bool true) ∧ ∃ n, w' = w.drewN n := by
  have := eqBytes_any xs xs A B c d w hx hy hn
  rw [eqL_same] at this
  exact this

/-- Within: the unsigned remainder. -/
theorem within_num (i n : Int) (h1 : 1 ≤ n) (h2 : n ≤ 9223372036854775807) : ∃ k : Nat, (k : Int) < n ∧ ((k : Int) = (i % 18446744073709551616) % n) ∧ wrap64 ((IntKind.u64.wrap i).tmod n) = (k : Int) := by
  have h3 : 0 ≤ i % 18446744073709551616 := Int.emod_nonneg _ (by omega)
  have h4 : 0 ≤ (i % 18446744073709551616) % n := Int.emod_nonneg _ (by omega)
  have h5 : (i % 18446744073709551616) % n < n := Int.emod_lt_of_pos _ (by omega)
  refine ⟨((i % 18446744073709551616) % n).toNat, by omega, by omega, ?_⟩
  rw [IntKind.wrap_u64, Int.tmod_eq_emod_of_nonneg h3, IntWalk.wrap64_in _ ⟨by omega, by omega⟩]
  omega
theorem within_any (i n : Int) (_hi : -9223372036854775808 ≤ i) (_hi2 : i ≤ 9223372036854775807) (h1 : 1 ≤ n) (h2 : n ≤ 9223372036854775807) (w : World) :
    Calls Tryd.prog 44 #[.int .i64 i, .int .i64 n] w fun e w' => ∃ k : Nat, (k : Int) < n ∧ ((k : Int) = (i % 18446744073709551616) % n) ∧ e = .returned (.int .i64 (k : Int)) ∧ w = w' := by
  have HK := Lib.hid (within_num i n h1 h2)
  go_enter Tryd.func44, Tryd.ntmps44
  go_wp2
  go_ret
  obtain ⟨k, hk, he, hw⟩ := HK.out
  refine ⟨k, hk, he, ?_, rfl⟩
  rw [← hw]
  rfl

/-- what Within answers. -/
def wth (i n : Int) : Nat := ((i % 18446744073709551616) % n).toNat
theorem wth_lt (i n : Int) (h1 : 1 ≤ n) : ((wth i n : Nat) : Int) < n := by
  have h3 : 0 ≤ i % 18446744073709551616 := Int.emod_nonneg _ (by omega)
  have h4 : 0 ≤ (i % 18446744073709551616) % n := Int.emod_nonneg _ (by omega)
  have h5 : (i % 18446744073709551616) % n < n := Int.emod_lt_of_pos _ (by omega)
  unfold wth; omega
theorem within (i n : Int) (hi : -9223372036854775808 ≤ i) (hi2 : i ≤ 9223372036854775807) (h1 : 1 ≤ n) (h2 : n ≤ 9223372036854775807) (w : World) :
    Calls Tryd.prog 44 #[.int .i64 i, .int .i64 n] w fun e w' => e = .returned (.int .i64 ((wth i n : Nat) : Int)) ∧ w = w' :=
  (within_any i n hi hi2 h1 h2 w).mono fun _ _ ⟨k, h, h', he, hw⟩ => ⟨by rw [he]; unfold wth; rw [← h']; simp, hw⟩

end Go.Proofs.YtkcdkjpmbjcmdaaDoor

/-
  The walk of CopyBytes.
-/
namespace Go.Proofs.YtkcdkjpmbjcmdaaDoor
open Go.RowKit

theorem info_u8 : (Tryd.prog.info? 5).map (fun i => (i.zero, i.size, i.bytes)) = some (some (.int .u8 0), 1, 1) := by kernel_rfl

set_option maxHeartbeats 400000 in
theorem copyBytes (xs : List UInt8) (A : Option Addr) (c : Nat) (w : World) (hx : RB w w.heap.size A xs) (hn : xs.length ≤ 140737488351232) :
    Calls Tryd.prog 32 #[.slice A xs.length c] w fun e w' => ∃ A' c', e = .returned (.slice A' xs.length c') ∧ w'.ownsRow w.heap.size 5 1 (.slice A' xs.length c') xs.length (xs.map bv) ∧ Below w.heap.size w w' := by
  go_enter Tryd.func32, Tryd.ntmps32
  go_wp2
  go_loopw [3, 4] (fun v i wr => ∃ k : Nat, k ≤ xs.length ∧ i = .int .i64 k ∧ wr.ownsRow w.heap.size 5 1 v k ((xs.take k).map bv) ∧ Below w.heap.size w wr)
    (fun _ i _ => xs.length - (intOf i).toNat)
  case atStart => exact ⟨0, Nat.zero_le _, rfl, World.ownsRow_nil _ _ _ _, Below.refl _ _⟩
  case round =>
    obtain ⟨k, hk, rfl, hown, hnx⟩ := hrel
    by_cases hlt : k < xs.length
    · obtain ⟨ad, u, rfl, hb, hu, hcell⟩ := (hx.below hnx).at_ hlt
      have hts := take_snoc? xs k u hu
      have HS : Hid ((xs.take (k+1)).map bv = (xs.take k).map bv ++ [.int .u8 (u.toNat : Int)]) := by rw [hts]; simp [Hid]
      clear hts hu
      go_wp2_with (at_builtin; refine wpList_append1 w.heap.size hnx rfl _ _ 31 rfl w.heap.size 5 (.int .u8 0) 1 Tryd.underlying31 info_u8 rfl _ _ _ (by exact rfl) hown (.int .u8 (u.toNat : Int)) (by exact rfl) rfl (by omega) (by unfold maxLen; omega) hnx.size (Nat.le_refl _) ?_; intro A' c' w' hown' hb')
      go_roundw
      case rel => exact ⟨k + 1, by omega, by go_num, by rw [HS.out]; exact hown', hb'⟩
      case measure => simp [intOf]; omega
    · obtain rfl : k = xs.length := by omega
      obtain ⟨A', c', rfl, _, _⟩ := own_shape hown
      go_wp2
      go_ret
      exact ⟨A', c', rfl, by simpa using hown, hnx⟩

end Go.Proofs.YtkcdkjpmbjcmdaaDoor

/-
  Laws for memory, without a program: append of what is read onto a row of the call's own; copy into such a row.
-/
namespace Go.Proofs.YtkcdkjpmbjcmdaaDoor
open Go.RowKit

section
variable {P : Program} (w : World)
theorem run_append_of_nil (base : Nat) (t ty e : TypeId) (i : TypeInfo) (size : Nat) (ht : P.underlying t = some (.slice e)) (hi : P.info? e = some i)
    (v : Value) (n : Nat) (xs : List Value) (hown : w.ownsRow base e size v n xs) (c : Nat) : (Builtin.append_ #[t, t] ty #[v, .slice none 0 c]).run P w = .ok v w := by
  rcases hown.2 with ⟨rfl, rfl⟩ | ⟨g, cap, cur, rfl, _, _, hnc, _⟩
  · simp [Builtin.append_, run_underlying ht, sizeOf, typeInfo, hi, Builtin.lenOf, Builtin.firstCells]
  · simp [Builtin.append_, run_underlying ht, sizeOf, typeInfo, hi, Builtin.lenOf, Builtin.firstCells, hnc, storeCells]

/-- append(v, src...): v the call's own, src whatever is read (nil, empty or not). -/
theorem run_append_read (base : Nat) (t ty e : TypeId) (z : Value) (size bytes : Nat) (ht : P.underlying t = some (.slice e)) (hi : (P.info? e).map (fun i => (i.zero, i.size, i.bytes)) = some (some z, size, bytes)) (hzs : z.cells.size = size) (hsz : 0 < size)
    (v : Value) (n : Nat) (xs : List Value) (hown : w.ownsRow base e size v n xs)
    (B : Nat) (A : Option Addr) (m c : Nat) (news : List Value) (hr : Reads w B size A m news) (h1 : ∀ u ∈ news, u.oneCell' = true)
    (h63 : n + m ≤ maxLen) (hbytes : (n + m) * bytes ≤ 140737488355328) (hbase : base ≤ w.heap.size) :
    ∃ A' c' w', (Builtin.append_ #[t, t] ty #[v, .slice A m c]).run P w = .ok (.slice A' (n + m) c') w' ∧ w'.ownsRow base e size (.slice A' (n + m) c') (n + m) (xs ++ news) ∧ w.grownBy w' v.ownBlock := by
  obtain ⟨i, hi0, hz0, hz1, hz2⟩ := info_parts hi
  rcases A with _ | ad
  · have hm : m = 0 := by
      rcases Nat.eq_zero_or_pos m with h0 | h0
      · exact h0
      · obtain ⟨ad, h, _⟩ := hr.2 h0
        cases h
    subst hm
    have hn : news = [] := List.eq_nil_of_length_eq_zero (by simpa using hr.1)
    subst hn
    obtain ⟨A, c1, rfl, _, _⟩ := own_shape hown
    exact ⟨A, c1, w, run_append_of_nil w base t ty e i size ht hi0 _ n xs hown c, by simpa using hown, World.grownBy.refl w _⟩
  · have hcells : ∀ j u, news[j]? = some u → w.cell? (ad.add j) = some u := by
      intro j u hu
      rcases Nat.eq_zero_or_pos m with h0 | h0
      · subst h0
        have hn : news = [] := List.eq_nil_of_length_eq_zero (by simpa using hr.1)
        subst hn
        simp at hu
      · obtain ⟨ad', h, _, hc⟩ := hr.2 h0
        injection h with h
        subst h
        exact hc j u hu
    obtain ⟨v', w', hrun, h2, h3, _, _⟩ := run_append_own_at (P := P) w base t ty e i z size bytes ht hi0 hz0 hz1 hz2 hzs hsz v n xs hown ad m c news hr.1 hcells h1 h63 hbytes hbase
    obtain ⟨A', c', rfl, _, _⟩ := own_shape h2
    exact ⟨A', c', w', hrun, h2, h3⟩
end

theorem own_form {w : World} {base : Nat} {e : TypeId} {size n c : Nat} {A : Option Addr} {xs : List Value} (h : w.ownsRow base e size (.slice A n c) n xs) (hn : 0 < n) : ∃ g, A = some ⟨g, 0, none⟩ ∧ base ≤ g ∧ g < w.heap.size := by
  obtain ⟨g, cap, hA, hg, hg2⟩ := h.form hn
  injection hA with hA _ _
  exact ⟨g, hA, hg, hg2⟩
theorem bv_one (xs : List UInt8) : ∀ u ∈ xs.map bv, u.oneCell' = true := by
  intro u hu
  obtain ⟨x, _, rfl⟩ := List.mem_map.1 hu
  rfl

/-- append(v, src...) of bytes, at the list of a plain region. -/
theorem wpList_append_bytes {P : Program} {w0 w : World} {ops : Array Oper} {rest : List Oper} {o : Oper} {a : Act} {Q : Exit → Act → World → Prop} (B : Nat) (hb : Below B w0 w) (hgd : o.guard = none) (s x : Operand) (t : TypeId)
    (ho : o.op = .call { callee := .builtin .append, args := #[s, x], argTypes := #[t, t] })
    (base : Nat) (e : TypeId) (ht : P.underlying t = some (.slice e)) (hi : (P.info? e).map (fun i => (i.zero, i.size, i.bytes)) = some (some (.int .u8 0), 1, 1))
    (v : Value) (n : Nat) (xs : List UInt8) (hs : a.eval s = v) (hown : w.ownsRow base e 1 v n (xs.map bv)) (A : Option Addr) (m c : Nat) (ys : List UInt8) (hm : ys.length = m) (hx : a.eval x = .slice A m c) (hr : RB w w.heap.size A ys)
    (hn : n + m ≤ 140737488355328) (hbase : base ≤ w.heap.size) (hB : B ≤ base)
    (h : ∀ A' c' w', w'.ownsRow base e 1 (.slice A' (n + m) c') (n + m) ((xs ++ ys).map bv) → Below B w0 w' → wpList P ops Q rest (a.put o.dst (.slice A' (n + m) c')) w') :
    wpList P ops Q (o :: rest) a w := by
  subst hm
  refine wpList_plain hgd fun K hK => ?_
  obtain ⟨A', c', w', hrun, h2, h3⟩ := run_append_read (P := P) w base t o.type e (.int .u8 0) 1 1 ht hi rfl (by decide) v n (xs.map bv) hown w.heap.size A ys.length c (ys.map bv) hr (bv_one ys) (by unfold maxLen; omega) (by omega) hbase
  unfold Oper.wp execOp
  simp only [ho, resolve, invoke, builtin, Sem.run_bind, Sem.run_pure, Result.andThen_ok, List.map_toArray, List.map_cons, List.map_nil, hs, hx, hrun]
  refine hK _ _ (h A' c' w' (by rw [List.map_append]; exact h2) (hb.grown h3 (by omega) ?_))
  intro k hk
  exact Nat.le_trans hB (hown.lt k hk).1

/-- what is owned, its first cells written over from 'off' on. -/
theorem own_splice {w : World} {base g n cap : Nat} {e : TypeId} {xs : List UInt8} (hown : w.ownsRow base e 1 (.slice (some ⟨g, 0, none⟩) n cap) n (xs.map bv)) (off : Nat) (ys : List UInt8) (hfit : off + ys.length ≤ n) :
    ∃ cur, w.heap[g]? = some (.cells cur e (0, 0)) ∧ off + (ys.map bv).length ≤ cur.size ∧
      (w.setRow g (cur.toList.take off ++ (ys.map bv) ++ cur.toList.drop (off + (ys.map bv).length)).toArray).ownsRow base e 1 (.slice (some ⟨g, 0, none⟩) n cap) n ((xs.take off ++ ys ++ xs.drop (off + ys.length)).map bv) := by
  obtain ⟨hl, h2⟩ := hown
  have hl' : xs.length = n := by simpa using hl
  rcases h2 with ⟨h, _⟩ | ⟨g', cap', cur, hv, hg, hh, hc, hm, hsz, htk⟩
  · cases h
  · injection hv with h1 _ h3
    injection h1 with h1
    injection h1 with h1
    subst h1; subst h3
    have hcur : cur.toList.length = cap := by simpa using hsz
    refine ⟨cur, hh, by simp; omega, by simp; omega, Or.inr ⟨g, cap, _, rfl, hg, setRow_heap w g cur _ e (0, 0) hh, hc, hm, ?_, ?_⟩⟩
    · simp only [List.size_toArray, List.length_append, List.length_take, List.length_drop, List.length_map, hcur, Nat.mul_one]
      omega
    · rw [Nat.mul_one] at htk ⊢
      have e1 : cur.toList = xs.map bv ++ cur.toList.drop n := by rw [← htk, List.take_append_drop]
      have e2 : cur.toList.take off = (xs.take off).map bv := by
        rw [e1, List.take_append_of_le_length (by simp; omega), List.map_take]
      have e3 : cur.toList.drop (off + ys.length) = (xs.drop (off + ys.length)).map bv ++ cur.toList.drop n := by
        conv => lhs; rw [e1]
        rw [List.drop_append_of_le_length (by simp; omega), List.map_drop]
      simp only [List.length_map]
      rw [e2, e3, ← List.append_assoc, ← List.map_append, ← List.map_append]
      rw [List.take_append_of_le_length (by simp; omega)]
      rw [List.take_of_length_le (by simp; omega)]

theorem only_setRow (g : Nat) (w : World) (cs : Array Value) : Only g w (w.setRow g cs) :=
  ⟨fun a ha => cell_setRow_other w g cs a ha, size_setRow w g cs, fun _ _ hb hB => below_setRow hb hB cs⟩

/-- copy into a row of the call's own, from what is read: as one step of a region that draws. -/
theorem step_copy_bytes {P : Program} {ops : Array Oper} {o : Oper} {a : Act} {w : World} {K : Act → World → Prop} {Q : Exit → Act → World → Prop} {E : Prop} (hgd : o.guard = none) (d s : Operand) (dT sT : TypeId)
    (ho : o.op = .call { callee := .builtin .copy, args := #[d, s], argTypes := #[dT, sT] }) (elem : TypeId) (hu : P.underlying dT = some (.slice elem)) (hsz : (P.info? elem).map (·.size) = some 1)
    (g off dLen dCap : Nat) (A : Option Addr) (sLen sCap : Nat) (hd : a.eval d = .slice (some ⟨g, off, none⟩) dLen dCap) (hs : a.eval s = .slice A sLen sCap)
    (base n cap : Nat) (xs ys : List UInt8) (hown : w.ownsRow base elem 1 (.slice (some ⟨g, 0, none⟩) n cap) n (xs.map bv)) (hr : RB w w.heap.size A ys) (hl : ys.length = sLen) (hle : ys.length ≤ dLen) (hfit : off + ys.length ≤ n) (h0 : 0 < ys.length)
    (h : ∀ w', w'.ownsRow base elem 1 (.slice (some ⟨g, 0, none⟩) n cap) n ((xs.take off ++ ys ++ xs.drop (off + ys.length)).map bv) → Only g w w' → K (a.put o.dst (goInt ys.length)) w') :
    if Region.wanted o (yielded ops a.tmps) = true then Oper.wp P o a w K Q else E := by
  have hw : Region.wanted o (yielded ops a.tmps) = true := by simp [Region.wanted, hgd]
  rw [if_pos hw]
  subst hl
  obtain ⟨ad, rfl, _, hc⟩ := hr.2 h0
  obtain ⟨cur, hg, hf, ho2⟩ := own_splice hown off ys hfit
  have hrun := run_copy_row (P := P) w dT sT o.type elem g off dLen dCap ad ys.length sCap cur elem (ys.map bv) hu hsz hg (by simp [Nat.min_eq_left hle]) hc hf (bv_one ys)
  unfold Oper.wp
  simp [execOp, ho, resolve, invoke, builtin, hd, hs, hrun, Result.andThen]
  simp only [List.length_map] at ho2
  have := h _ ho2 (only_setRow g w _)
  rw [Oper.upon_value]
  simpa using this

end Go.Proofs.YtkcdkjpmbjcmdaaDoor

/-
  Numbers as bytes, the highest first, and back, in plain Lean.
-/
namespace Go.Proofs.YtkcdkjpmbjcmdaaDoor

/-- a number's so many bytes, the highest first. -/
def big : Nat → Nat → List UInt8
  | 0, _ => []
  | k + 1, n => UInt8.ofNat (n / 256 ^ k) :: big k n
/-- back. -/
def ofB (xs : List UInt8) : Nat := xs.foldl (fun v x => v * 256 + x.toNat) 0
theorem big_length (k n : Nat) : (big k n).length = k := by
  induction k with
  | zero => rfl
  | succ k ih => simp [big, ih]
theorem ofB_snoc (xs : List UInt8) (x : UInt8) : ofB (xs ++ [x]) = ofB xs * 256 + x.toNat := by simp [ofB]
theorem ofB_lt (xs : List UInt8) : ofB xs < 256 ^ xs.length := by
  have : ∀ (n : Nat) (xs : List UInt8), xs.length = n → ofB xs < 256 ^ n := by
    intro n
    induction n with
    | zero => intro xs h; rw [List.eq_nil_of_length_eq_zero h]; simp [ofB]
    | succ n ih =>
      intro xs h
      have hne : xs ≠ [] := by intro h0; rw [h0] at h; simp at h
      have e := List.dropLast_concat_getLast hne
      have h1 := ih xs.dropLast (by simp; omega)
      have h2 := (xs.getLast hne).toNat_lt
      rw [← e, ofB_snoc, Nat.pow_succ]
      omega
  exact this _ xs rfl
theorem take_big (k n j : Nat) (hj : j < k) : (big k n)[j]? = some (UInt8.ofNat (n / 256 ^ (k - 1 - j))) := by
  induction k generalizing j with
  | zero => omega
  | succ k ih =>
    cases j with
    | zero => simp [big]
    | succ j =>
      simp only [big, List.getElem?_cons_succ]
      rw [ih j (by omega)]
      congr 4; omega
theorem big_take_snoc (k n j : Nat) (hj : j < k) : (big k n).take (j + 1) = (big k n).take j ++ [UInt8.ofNat (n / 256 ^ (k - 1 - j))] := take_snoc? _ _ _ (take_big k n j hj)
theorem shift_or (a : Nat) (x : Nat) (hx : x < 256) : (a * 256) ||| x = a * 256 + x := by
  have := Nat.two_pow_add_eq_or_of_lt (i := 8) (by simpa using hx) a
  rw [show a * 256 = 2 ^ 8 * a by omega]
  exact this.symm
theorem byte_shr (n : Nat) (k : Nat) : ((n / 256 ^ k : Nat) : Int) % 256 = (((UInt8.ofNat (n / 256 ^ k)).toNat : Nat) : Int) := by
  rw [UInt8.toNat_ofNat']
  omega
end Go.Proofs.YtkcdkjpmbjcmdaaDoor

/-
  Words for memory that the walks of chapter 18 share: rows of the call's own, written over, grown, kept; blocks that are laid.
-/
namespace Go.Proofs.YtkcdkjpmbjcmdaaDoor
open Go.RowKit

/-- a byte stored into a row of the call's own, no draw. -/
theorem own_set {w : World} {base g n cap : Nat} {xs : List UInt8} (hown : w.ownsRow base 5 1 (.slice (some ⟨g, 0, none⟩) n cap) n (xs.map bv)) (p : Nat) (y : UInt8) :
    (w.setCell ⟨g, p, none⟩ (.int .u8 (y.toNat : Int))).ownsRow base 5 1 (.slice (some ⟨g, 0, none⟩) n cap) n ((xs.set p y).map bv) := by
  have := hown.stored p (.int .u8 (y.toNat : Int))
  rw [← List.map_set] at this
  exact this.1
theorem own_setv {w : World} {base g n cap : Nat} {xs : List UInt8} (hown : w.ownsRow base 5 1 (.slice (some ⟨g, 0, none⟩) n cap) n (xs.map bv)) (p : Nat) (y : UInt8) {v : Value} (hv : v = .int .u8 (y.toNat : Int)) :
    (w.setCell ⟨g, p, none⟩ v).ownsRow base 5 1 (.slice (some ⟨g, 0, none⟩) n cap) n ((xs.set p y).map bv) := by
  subst hv
  exact own_set hown p y
theorem own_cell {w : World} {base g n cap : Nat} {xs : List UInt8} (hown : w.ownsRow base 5 1 (.slice (some ⟨g, 0, none⟩) n cap) n (xs.map bv)) (p : Nat) (hp : p < n) :
    ∃ x : UInt8, xs[p]? = some x ∧ w.cell? ⟨g, p, none⟩ = some (.int .u8 (x.toNat : Int)) ∧ w.frozen? ⟨g, p, none⟩ = false := by
  have hl : xs.length = n := by have := hown.1; simpa using this
  refine ⟨xs[p], List.getElem?_eq_getElem (by omega), ?_, hown.frozenAt p⟩
  rw [hown.cellAt p (by omega), List.getElem?_map, List.getElem?_eq_getElem (by omega)]
  rfl
/-- what is owned is read. -/
theorem own_read {w : World} {base g n cap : Nat} {xs : List UInt8} (hown : w.ownsRow base 5 1 (.slice (some ⟨g, 0, none⟩) n cap) n (xs.map bv)) : xs.length = n ∧ RB w w.heap.size (some ⟨g, 0, none⟩) xs := by
  have hl : xs.length = n := by have := hown.1; simpa using this
  subst hl
  exact ⟨rfl, RB.of_own hown⟩
theorem byte_hi (n : Nat) (hn : n ≤ 65535) : ((n : Int) / 256) = (((UInt8.ofNat (n / 256)).toNat : Nat) : Int) := by
  rw [UInt8.toNat_ofNat']
  omega
theorem byte_lo (n : Nat) : (n : Int) % 256 = (((UInt8.ofNat n).toNat : Nat) : Int) := by
  rw [UInt8.toNat_ofNat']
  omega
theorem cellB {B : Nat} {w w' : World} (hb : Below B w w') {b o : Nat} (h : b < B) : w'.cell? ⟨b, o, none⟩ = w.cell? ⟨b, o, none⟩ := hb.cell (p := ⟨b, o, none⟩) h
theorem frozB {B : Nat} {w w' : World} (hb : Below B w w') {b o : Nat} (h : b < B) : w'.frozen? ⟨b, o, none⟩ = w.frozen? ⟨b, o, none⟩ := hb.frozen (p := ⟨b, o, none⟩) h
theorem wrap_byte (x : UInt8) : IntKind.i64.wrap (x.toNat : Int) = (x.toNat : Int) := by
  have := x.toNat_lt
  exact IntWalk.i64_in _ (by omega)
theorem grown_setCell (w : World) (g o : Nat) (u : Value) : w.grownBy (w.setCell ⟨g, o, none⟩ u) (some g) :=
  ⟨rfl, rfl, rfl, by simp [World.setCell], fun k _ hne => by
    have hk : g ≠ k := fun e => hne (by rw [e])
    simp only [World.setCell]
    rw [Array.getElem?_modify]
    simp [hk]⟩
theorem RB.of_ownN {w : World} {base n c : Nat} {e : TypeId} {A : Option Addr} {xs : List UInt8} (h : w.ownsRow base e 1 (.slice A n c) n (xs.map bv)) : RB w w.heap.size A xs := by
  have hl : xs.length = n := by simpa using h.1
  subst hl
  exact RB.of_own h
/-- append(v, src...) of bytes, as one step of a region that draws. -/
theorem step_append_bytes {P : Program} {ops : Array Oper} {o : Oper} {a : Act} {w : World} {K : Act → World → Prop} {Q : Exit → Act → World → Prop} {E : Prop} (hgd : o.guard = none) (s x : Operand) (t : TypeId)
    (ho : o.op = .call { callee := .builtin .append, args := #[s, x], argTypes := #[t, t] })
    (base : Nat) (e : TypeId) (ht : P.underlying t = some (.slice e)) (hi : (P.info? e).map (fun i => (i.zero, i.size, i.bytes)) = some (some (.int .u8 0), 1, 1))
    (v : Value) (n : Nat) (xs : List UInt8) (hs : a.eval s = v) (hown : w.ownsRow base e 1 v n (xs.map bv)) (A : Option Addr) (m c : Nat) (ys : List UInt8) (hm : ys.length = m) (hx : a.eval x = .slice A m c) (hr : RB w w.heap.size A ys)
    (hn : n + m ≤ 140737488355328) (hbase : base ≤ w.heap.size)
    (h : ∀ A' c' w', w'.ownsRow base e 1 (.slice A' (n + m) c') (n + m) ((xs ++ ys).map bv) → Below base w w' → w.grownBy w' v.ownBlock → K (a.put o.dst (.slice A' (n + m) c')) w') :
    if Region.wanted o (yielded ops a.tmps) = true then Oper.wp P o a w K Q else E := by
  have hw : Region.wanted o (yielded ops a.tmps) = true := by simp [Region.wanted, hgd]
  rw [if_pos hw]
  subst hm
  obtain ⟨A', c', w', hrun, h2, h3⟩ := run_append_read (P := P) w base t o.type e (.int .u8 0) 1 1 ht hi rfl (by decide) v n (xs.map bv) hown w.heap.size A ys.length c (ys.map bv) hr (bv_one ys) (by unfold maxLen; omega) (by omega) hbase
  unfold Oper.wp execOp
  simp only [ho, resolve, invoke, builtin, Sem.run_bind, Sem.run_pure, Result.andThen_ok, List.map_toArray, List.map_cons, List.map_nil, hs, hx, hrun]
  exact h _ _ _ (by rw [List.map_append]; exact h2) ((Below.refl _ _).grown h3 hbase fun k hk => (hown.lt k hk).1) h3
theorem lt_alloc (w : World) (o : Obj) : w.heap.size < (w.alloc o).heap.size := by rw [World.size_alloc]; omega
theorem lt_alloc_drew (w : World) (o : Obj) : w.heap.size < (w.alloc o).drew.heap.size := lt_alloc w o
theorem balloc (w : World) (o : Obj) : Below w.heap.size w (w.alloc o) := (Below.refl _ _).alloc (Nat.le_refl _) _
theorem own_ne {w : World} {base : Nat} {e : TypeId} {size : Nat} {v : Value} {n : Nat} {xs : List Value} (h : w.ownsRow base e size v n xs) {g : Nat} (hg : g < base ∨ w.heap.size ≤ g) : some g ≠ v.ownBlock := by
  intro e
  have := h.lt g e.symm
  omega
theorem eqBytesN (xs : List UInt8) (n : Nat) (hl : xs.length = n) (A B : Option Addr) (c d : Nat) (w : World) (hx : RB w w.heap.size A xs) (hy : RB w w.heap.size B xs) (hn : n ≤ 140737488351232) :
    Calls Tryd.prog 28 #[.slice A n c, .slice B n d] w fun e w' => e = .returned (.bool true) ∧ Below w.heap.size w w' := by
  subst hl
  exact (eqBytes xs A B c d w hx hy (by unfold maxLen; omega)).mono fun e w' h => ⟨h.1, below_of_drewN h.2⟩

theorem copyN (xs : List UInt8) (n : Nat) (hl : xs.length = n) (A : Option Addr) (c : Nat) (w : World) (hx : RB w w.heap.size A xs) (hn : n ≤ 140737488351232) :
    Calls Tryd.prog 32 #[.slice A n c] w fun e w' => ∃ A' c', e = .returned (.slice A' n c') ∧ w'.ownsRow w.heap.size 5 1 (.slice A' n c') n (xs.map bv) ∧ Below w.heap.size w w' := by
  subst hl
  exact copyBytes xs A c w hx hn

theorem ofInt_i64 (a : Nat) (ha : a < 9223372036854775808) : (BitVec.ofInt 64 (a : Int)).toNat = a := by
  rw [BitVec.ofInt_natCast, BitVec.toNat_ofNat]; exact Nat.mod_eq_of_lt (by omega)
theorem i64_and_nat (a b : Nat) (ha : a < 9223372036854775808) (hb : b < 9223372036854775808) : bits .and .i64 (a : Int) (b : Int) = ((a &&& b : Nat) : Int) := by
  have hx : a &&& b < 2 ^ 63 := Nat.and_lt_two_pow _ (by omega)
  show IntKind.i64.wrap ((BitVec.ofInt 64 (a : Int) &&& BitVec.ofInt 64 (b : Int)).toNat : Int) = _
  rw [BitVec.toNat_and, ofInt_i64 a ha, ofInt_i64 b hb, IntKind.wrap_i64]
  omega
theorem i64_or_nat (a b : Nat) (ha : a < 9223372036854775808) (hb : b < 9223372036854775808) : bits .or .i64 (a : Int) (b : Int) = ((a ||| b : Nat) : Int) := by
  have hx : a ||| b < 2 ^ 63 := Nat.or_lt_two_pow (by omega) (by omega)
  show IntKind.i64.wrap ((BitVec.ofInt 64 (a : Int) ||| BitVec.ofInt 64 (b : Int)).toNat : Int) = _
  rw [BitVec.toNat_or, ofInt_i64 a ha, ofInt_i64 b hb, IntKind.wrap_i64]
  omega

set_option maxHeartbeats 400000 in
theorem clone (xs : List UInt8) (n : Nat) (hl : xs.length = n) (A : Option Addr) (c : Nat) (w : World) (hx : RB w w.heap.size A xs) (hn : n ≤ 140737488351232) :
    Calls Tryd.prog 69 #[.slice A n c] w fun e w' => ∃ A' c', e = .returned (.slice A' n c') ∧ w'.ownsRow w.heap.size 5 1 (.slice A' n c') n (xs.map bv) ∧ Below w.heap.size w w' := by
  have heq := fun w : World => Lib.run_eql_slice_nil (P := Tryd.prog) w 31 5 A n c 0 0 Tryd.underlying31
  rcases A with _ | ad
  · have h0 : n = 0 := by
      subst hl
      rcases Nat.eq_zero_or_pos xs.length with h | h
      · exact h
      · obtain ⟨_, h1, _⟩ := hx.2 h
        cases h1
    subst h0
    have hxs : xs = [] := List.eq_nil_of_length_eq_zero hl
    subst hxs
    go_enter Tryd.func69, Tryd.ntmps69
    go_wp2
    go_ret
    exact ⟨none, 0, rfl, World.ownsRow_nil _ _ _ _, Below.refl _ _⟩
  · simp only [Option.isNone_some] at heq
    have hmade : (w.alloc (.cells #[] 5)).ownsRow w.heap.size 5 1 (.slice (some ⟨w.heap.size, 0, none⟩) 0 0) 0 (([] : List UInt8).map bv) :=
      World.ownsRow_made w #[] 0 (Nat.le_refl _) (by decide) (by simp)
    have hrd : RB (w.alloc (.cells #[] 5)) (w.alloc (.cells #[] 5)).heap.size (some ad) xs := hx.next ((Below.refl _ _).alloc (Nat.le_refl _) _)
    have hbel : Below w.heap.size w (w.alloc (.cells #[] 5)) := (Below.refl _ _).alloc (Nat.le_refl _) _
    have HM := Lib.hid hmade
    have HR := Lib.hid hrd
    have HB := Lib.hid hbel
    have hl' := Lib.hid hl
    clear hmade hrd hbel hx hl
    go_enter Tryd.func69, Tryd.ntmps69
    go_wp2_with (at_builtin; refine wpList_append_bytes w.heap.size HB.out rfl _ _ 31 rfl w.heap.size 5 Tryd.underlying31 info_u8 _ _ [] (by exact rfl) HM.out (some ad) n c xs hl'.out (by exact rfl) HR.out (by omega) (by simp) (Nat.le_refl _) ?_; intro A' c' w' hown' hb')
    go_ret
    exact ⟨A', c', by simp only; rfl, by simpa using hown', hb'⟩

theorem bigI (k : Nat) (n : Nat) : ((n : Int) / 2 ^ (8 * k)) = ((n / 256 ^ k : Nat) : Int) := by
  rw [show (256 : Nat) ^ k = 2 ^ (8 * k) by rw [Nat.pow_mul]]
  simp

set_option maxRecDepth 100000 in
set_option maxHeartbeats 800000 in
theorem big_walk (vI kI : Int) (v k : Nat) (hve : vI = (v : Int)) (hke : kI = (k : Int)) (hk : k ≤ 7) (_hv : v < 9223372036854775808) (w : World) :
    Calls Tryd.prog 77 #[.int .i64 vI, .int .i64 kI] w fun e w' => ∃ A' c', e = .returned (.slice A' k c') ∧ w'.ownsRow w.heap.size 5 1 (.slice A' k c') k ((big k v).map bv) ∧ Below w.heap.size w w' := by
  subst hve hke
  go_enter Tryd.func77, Tryd.ntmps77
  go_wp2
  go_loopw [5, 6] (fun sv i wr => ∃ j : Nat, j ≤ k ∧ i = .int .i64 ((k : Int) - 1 - (j : Int)) ∧ wr.ownsRow w.heap.size 5 1 sv j (((big k v).take j).map bv) ∧ Below w.heap.size w wr)
    (fun _ i _ => (intOf i + 1).toNat)
  case atStart => exact ⟨0, Nat.zero_le _, by go_num, World.ownsRow_nil _ _ _ _, Below.refl _ _⟩
  case round =>
    obtain ⟨j, hj, rfl, hown, hb⟩ := hrel
    by_cases hlt : j < k
    · have HS : Hid (((big k v).take (j + 1)).map bv = ((big k v).take j).map bv ++ [.int .u8 (((UInt8.ofNat (v / 256 ^ (k - 1 - j))).toNat : Nat) : Int)]) := by
        rw [big_take_snoc k v j hlt, List.map_append]; rfl
      have hlt' : (j : Int) ≤ (k : Int) - 1 := by omega
      have EV : Hid ((v : Int) / 2 ^ (8 * (k - 1 - j)) % 256 = (((UInt8.ofNat (v / 256 ^ (k - 1 - j))).toNat : Nat) : Int)) := by
        unfold Hid
        rw [bigI, byte_shr]
      go_wp2_with (at_builtin; refine wpList_append1 w.heap.size hb rfl _ _ 31 rfl w.heap.size 5 (.int .u8 0) 1 Tryd.underlying31 info_u8 rfl _ _ _ (by exact rfl) hown (.int .u8 ((v : Int) / 2 ^ (8 * (k - 1 - j)) % 256)) (by exact rfl) rfl (by omega) (by unfold maxLen; omega) hb.size (Nat.le_refl _) ?_; intro A' c' w' hown' hb')
      go_roundw
      case rel => exact ⟨j + 1, by omega, by go_num, by rw [HS.out, ← EV.out]; exact hown', hb'⟩
      case measure => simp [intOf]; omega
    · obtain rfl : j = k := by omega
      obtain ⟨A', c', rfl, _, _⟩ := own_shape hown
      go_wp2
      go_ret
      exact ⟨A', c', rfl, by rw [List.take_of_length_le (by rw [big_length]; exact Nat.le_refl _)] at hown; exact hown, hb⟩

theorem or_shl (a : Nat) (x : UInt8) (ha : a < 36028797018963968) : bits .or .i64 ((a : Int) * 256) (x.toNat : Int) = ((a * 256 + x.toNat : Nat) : Int) := by
  have hx := x.toNat_lt
  have := i64_or_nat (a * 256) x.toNat (by omega) (by omega)
  rw [shift_or a x.toNat hx] at this
  rw [← this]
  simp

set_option maxHeartbeats 800000 in
theorem ofW (xs : List UInt8) (n : Nat) (hl : xs.length = n) (A : Option Addr) (c : Nat) (w : World) (hx : RB w w.heap.size A xs) (hn : n ≤ 7) :
    Calls Tryd.prog 103 #[.slice A n c] w fun e w' => e = .returned (.int .i64 ((ofB xs : Nat) : Int)) ∧ w = w' := by
  subst hl
  have hb : ∀ k, k ≤ xs.length → ofB (xs.take k) < 72057594037927936 := by
    intro k hk
    have h1 := ofB_lt (xs.take k)
    have h2 : (256 : Nat) ^ (xs.take k).length ≤ 256 ^ 7 := Nat.pow_le_pow_right (by omega) (by rw [List.length_take]; omega)
    omega
  have HB := Lib.hid hb
  clear hb
  go_enter Tryd.func103, Tryd.ntmps103
  go_wp2
  go_loop [3, 4] (fun sv i => ∃ k t : Nat, i = .int .i64 k ∧ sv = .int .i64 (t : Nat) ∧ k ≤ xs.length ∧ Hid (t = ofB (xs.take k))) (fun _ i => xs.length - (intOf i).toNat)
  case atStart => exact ⟨0, 0, rfl, rfl, Nat.zero_le _, rfl⟩
  case round =>
    obtain ⟨k, t, rfl, rfl, hk, ht⟩ := hrel
    by_cases hlt : k < xs.length
    · obtain ⟨b0, o0, u, rfl, hb, hu, hcell⟩ := hx.get hlt
      have hub : (u.toNat : Int) < 256 := by have := u.toNat_lt; omega
      have hs : ofB (xs.take (k + 1)) = t * 256 + u.toNat := by rw [take_snoc? xs k u hu, ofB_snoc, ht.out]
      have ht1 : t < 36028797018963968 := by
        have h1 := ofB_lt (xs.take k)
        have h2 : (256 : Nat) ^ (xs.take k).length ≤ 256 ^ 6 := Nat.pow_le_pow_right (by omega) (by rw [List.length_take]; omega)
        have h3 := ht.out
        omega
      have HO := Lib.hid (or_shl t u ht1)
      have HS := Lib.hid hs
      clear hu hs
      go_wp2
      go_round
      case rel => exact ⟨k + 1, t * 256 + u.toNat, by go_num, by rw [HO.out], by omega, HS.out.symm⟩
      case measure => simp [intOf]; omega
    · obtain rfl : k = xs.length := by omega
      have HE : Hid (ofB xs = t) := by rw [ht.out, List.take_length]; exact rfl
      go_wp2
      go_ret
      exact ⟨by rw [HE.out]; rfl, rfl⟩

end Go.Proofs.YtkcdkjpmbjcmdaaDoor

/-
  The walks of chapter 18's smallest functions: within, id, Num, bit, two, text (both), num.
-/
namespace Go.Proofs.YtkcdkjpmbjcmdaaDoor
open Go.RowKit

/-- a string's bytes. -/
abbrev sb (s : ByteArray) : List UInt8 := s.data.toList
theorem sb_length (s : ByteArray) : (sb s).length = s.size := by simp [sb]
theorem strCells_bv (s : ByteArray) : Lib.strCells s = (sb s).map bv := rfl

/-- append(v, s...) of a string, at the list of a plain region. -/
theorem wpList_append_str {P : Program} {w0 w : World} {ops : Array Oper} {rest : List Oper} {o : Oper} {a : Act} {Q : Exit → Act → World → Prop} (B : Nat) (hb : Below B w0 w) (hgd : o.guard = none) (s x : Operand) (t u : TypeId)
    (ho : o.op = .call { callee := .builtin .append, args := #[s, x], argTypes := #[t, u] })
    (base : Nat) (e : TypeId) (ht : P.underlying t = some (.slice e)) (hu : P.underlying u = some .string) (hi : (P.info? e).map (fun i => (i.zero, i.size, i.bytes)) = some (some (.int .u8 0), 1, 1))
    (v : Value) (n : Nat) (xs : List UInt8) (hs : a.eval s = v) (hown : w.ownsRow base e 1 v n (xs.map bv)) (str : ByteArray) (hx : a.eval x = .string str)
    (hn : n + str.size ≤ 140737488355328) (hbase : base ≤ w.heap.size) (hB : B ≤ base)
    (h : ∀ A' c' w', w'.ownsRow base e 1 (.slice A' (n + str.size) c') (n + str.size) ((xs ++ sb str).map bv) → Below B w0 w' → wpList P ops Q rest (a.put o.dst (.slice A' (n + str.size) c')) w') :
    wpList P ops Q (o :: rest) a w := by
  obtain ⟨i0, hi0, hz0, hz1, hz2⟩ := info_parts hi
  refine Lib.wpList_append_own_string _ hgd s x t u ho base e i0 ht hu hi0 hz0 hz1 hz2 v n _ hs hown str hx (by unfold maxLen; omega) hn hbase ?_
  intro v' w' hown' hg _
  obtain ⟨A, c, rfl, _, _⟩ := own_shape hown'
  refine h A c w' (by rw [List.map_append, ← strCells_bv]; exact hown') (hb.grown hg (Nat.le_trans hB hbase) ?_)
  intro k hk
  exact Nat.le_trans hB (hown.lt k hk).1

/-- append(v, s...) of a string, as one step of a region that draws. -/
theorem step_append_str {P : Program} {ops : Array Oper} {o : Oper} {a : Act} {w : World} {K : Act → World → Prop} {Q : Exit → Act → World → Prop} {E : Prop} (hgd : o.guard = none) (s x : Operand) (t u : TypeId)
    (ho : o.op = .call { callee := .builtin .append, args := #[s, x], argTypes := #[t, u] })
    (base : Nat) (e : TypeId) (ht : P.underlying t = some (.slice e)) (hu : P.underlying u = some .string) (hi : (P.info? e).map (fun i => (i.zero, i.size, i.bytes)) = some (some (.int .u8 0), 1, 1))
    (v : Value) (n : Nat) (xs : List UInt8) (hs : a.eval s = v) (hown : w.ownsRow base e 1 v n (xs.map bv)) (str : ByteArray) (hx : a.eval x = .string str)
    (hn : n + str.size ≤ 140737488355328) (hbase : base ≤ w.heap.size)
    (h : ∀ A' c' w', w'.ownsRow base e 1 (.slice A' (n + str.size) c') (n + str.size) ((xs ++ sb str).map bv) → Below base w w' → K (a.put o.dst (.slice A' (n + str.size) c')) w') :
    if Region.wanted o (yielded ops a.tmps) = true then Oper.wp P o a w K Q else E := by
  have hw : Region.wanted o (yielded ops a.tmps) = true := by simp [Region.wanted, hgd]
  rw [if_pos hw]
  obtain ⟨i0, hi0, hz0, hz1, hz2⟩ := info_parts hi
  obtain ⟨v', w', hrun, h2, h3, _⟩ := Lib.run_append_own_string (P := P) (w := w) base t u o.type e i0 ht hu hi0 hz0 hz1 hz2 v n (xs.map bv) hown str (by unfold maxLen; omega) hn hbase
  obtain ⟨A, c, rfl, _, _⟩ := own_shape h2
  unfold Oper.wp execOp
  simp only [ho, resolve, invoke, builtin, Sem.run_bind, Sem.run_pure, Result.andThen_ok, List.map_toArray, List.map_cons, List.map_nil, hs, hx, hrun]
  exact h _ _ _ (by rw [List.map_append, ← strCells_bv]; exact h2) ((Below.refl _ _).grown h3 hbase fun k hk => (hown.lt k hk).1)

def inRB (n l m : Int) : Bool := decide (l ≤ n) && decide (n ≤ m)
theorem inRB_iff {n l m : Int} : inRB n l m = true ↔ l ≤ n ∧ n ≤ m := by simp [inRB]
theorem packWithin (n l m : Int) (w : World) : Calls Tryd.prog 88 #[.int .i64 n, .int .i64 l, .int .i64 m] w fun e w' => e = .returned (.bool (inRB n l m)) ∧ w = w' := by
  by_cases h1 : l ≤ n
  · by_cases h2 : n ≤ m
    · have H := Lib.hid (inRB_iff.2 ⟨h1, h2⟩ : inRB n l m = true)
      go_enter Tryd.func88, Tryd.ntmps88
      go_wp2
      go_ret
      exact ⟨by rw [H.out]; rfl, rfl⟩
    · have H := Lib.hid (Bool.eq_false_iff.2 fun h => h2 (inRB_iff.1 h).2 : inRB n l m = false)
      go_enter Tryd.func88, Tryd.ntmps88
      go_wp2
      go_ret
      exact ⟨by rw [H.out]; rfl, rfl⟩
  · have H := Lib.hid (Bool.eq_false_iff.2 fun h => h1 (inRB_iff.1 h).1 : inRB n l m = false)
    go_enter Tryd.func88, Tryd.ntmps88
    go_wp2
    go_ret
    exact ⟨by rw [H.out]; rfl, rfl⟩
theorem refId (n : Int) (w : World) : Calls Tryd.prog 54 #[.int .i64 n] w fun e w' => e = .returned (.bool (inRB n 1 65535)) ∧ w = w' := by
  by_cases h1 : (1 : Int) ≤ n
  · by_cases h2 : n ≤ 65535
    · have H := Lib.hid (inRB_iff.2 ⟨h1, h2⟩ : inRB n 1 65535 = true)
      go_enter Tryd.func54, Tryd.ntmps54
      go_wp2
      go_ret
      exact ⟨by rw [H.out]; rfl, rfl⟩
    · have H := Lib.hid (Bool.eq_false_iff.2 fun h => h2 (inRB_iff.1 h).2 : inRB n 1 65535 = false)
      go_enter Tryd.func54, Tryd.ntmps54
      go_wp2
      go_ret
      exact ⟨by rw [H.out]; rfl, rfl⟩
  · have H := Lib.hid (Bool.eq_false_iff.2 fun h => h1 (inRB_iff.1 h).1 : inRB n 1 65535 = false)
    go_enter Tryd.func54, Tryd.ntmps54
    go_wp2
    go_ret
    exact ⟨by rw [H.out]; rfl, rfl⟩
theorem refNumB (n m : Int) (w : World) : Calls Tryd.prog 51 #[.int .i64 n, .int .i64 m] w fun e w' => e = .returned (.bool (inRB n 0 m)) ∧ w = w' := by
  by_cases h1 : 0 ≤ n
  · by_cases h2 : n ≤ m
    · have H := Lib.hid (inRB_iff.2 ⟨h1, h2⟩ : inRB n 0 m = true)
      go_enter Tryd.func51, Tryd.ntmps51
      go_wp2
      go_ret
      exact ⟨by rw [H.out]; rfl, rfl⟩
    · have H := Lib.hid (Bool.eq_false_iff.2 fun h => h2 (inRB_iff.1 h).2 : inRB n 0 m = false)
      go_enter Tryd.func51, Tryd.ntmps51
      go_wp2
      go_ret
      exact ⟨by rw [H.out]; rfl, rfl⟩
  · have H := Lib.hid (Bool.eq_false_iff.2 fun h => h1 (inRB_iff.1 h).1 : inRB n 0 m = false)
    go_enter Tryd.func51, Tryd.ntmps51
    go_wp2
    go_ret
    exact ⟨by rw [H.out]; rfl, rfl⟩
theorem num18 (n : Int) (w : World) : Calls Tryd.prog 26 #[.int .i64 n] w fun e w' => e = .returned (.int .i64 n) ∧ w = w' := by
  go_enter Tryd.func26, Tryd.ntmps26
  go_wp2
  go_ret
  exact ⟨rfl, rfl⟩
theorem packBit (b : Bool) (n : Int) (w : World) : Calls Tryd.prog 98 #[.bool b, .int .i64 n] w fun e w' => e = .returned (.int .i64 (if b then n else 0)) ∧ w = w' := by
  cases b
  all_goals
    go_enter Tryd.func98, Tryd.ntmps98
    go_wp2
    go_ret
    exact ⟨rfl, rfl⟩
theorem refBit (b : Bool) (n : Int) (w : World) : Calls Tryd.prog 56 #[.bool b, .int .u8 n] w fun e w' => e = .returned (.int .u8 (if b then n else 0)) ∧ w = w' := by
  cases b
  all_goals
    go_enter Tryd.func56, Tryd.ntmps56
    go_wp2
    go_ret
    exact ⟨rfl, rfl⟩

theorem litTwo (v : Nat) (hv : v ≤ 65535) : (#[Value.int .u8 ((v : Int) / 256), .int .u8 ((v : Int) % 256)] : Array Value).toList = (big 2 v).map bv := by
  have h1 := byte_hi v hv
  have h2 := byte_lo v
  simp only [big, List.map, bv, Nat.pow_one, Nat.pow_zero, Nat.div_one, h1, h2]

/-- two(b, v): the number's two bytes behind what is owned. -/
theorem packTwo (base : Nat) (xs : List UInt8) (m : Nat) (A : Option Addr) (c : Nat) (vI : Int) (v : Nat) (hve : vI = (v : Int)) (hv : v ≤ 65535) (w : World)
    (hown : w.ownsRow base 5 1 (.slice A m c) m (xs.map bv)) (hbase : base ≤ w.heap.size) (hn : m ≤ 140737488351232) :
    Calls Tryd.prog 100 #[.slice A m c, .int .i64 vI] w fun e w' => ∃ A' c', e = .returned (.slice A' (m + 2) c') ∧ w'.ownsRow base 5 1 (.slice A' (m + 2) c') (m + 2) ((xs ++ big 2 v).map bv) ∧ Below base w w' := by
  subst hve
  have HO := Lib.hid (own_below hown (balloc w (.cells #[.int .u8 ((v : Int) / 256), .int .u8 ((v : Int) % 256)] 5)))
  have HR := Lib.hid (RB.lit w 5 #[.int .u8 ((v : Int) / 256), .int .u8 ((v : Int) % 256)] (0, 0) (big 2 v) (litTwo v hv))
  have HB := Lib.hid ((Below.refl base w).alloc hbase (.cells #[.int .u8 ((v : Int) / 256), .int .u8 ((v : Int) % 256)] 5))
  have hvI : (v : Int) ≤ 65535 := by omega
  clear hown
  go_enter Tryd.func100, Tryd.ntmps100
  go_wp2_with (at_builtin; refine wpList_append_bytes base HB.out rfl _ _ 31 rfl base 5 Tryd.underlying31 info_u8 _ _ xs (by exact rfl) HO.out (some ⟨w.heap.size, 0, none⟩) 2 2 (big 2 v) rfl (by exact rfl) HR.out (by omega) (by simp; omega) (Nat.le_refl _) ?_; intro A' c' w' hown' hb')
  go_ret
  exact ⟨A', c', rfl, hown', hb'⟩

/-- text(b, s): the length's two bytes and the string's own behind what is owned. -/
theorem packText (base : Nat) (xs : List UInt8) (m : Nat) (A : Option Addr) (c : Nat) (s : ByteArray) (hs : s.size ≤ 65535) (w : World)
    (hown : w.ownsRow base 5 1 (.slice A m c) m (xs.map bv)) (hbase : base ≤ w.heap.size) (hn : m ≤ 140737488251232) :
    Calls Tryd.prog 99 #[.slice A m c, .string s] w fun e w' => ∃ A' c', e = .returned (.slice A' (m + 2 + s.size) c') ∧ w'.ownsRow base 5 1 (.slice A' (m + 2 + s.size) c') (m + 2 + s.size) ((xs ++ big 2 s.size ++ sb s).map bv) ∧ Below base w w' := by
  have K1 := Lib.hid (packTwo base xs m A c (s.size : Int) s.size rfl hs w hown hbase (by omega))
  clear hown
  go_enter Tryd.func99, Tryd.ntmps99
  go_wp2_with fail
  (with_reducible refine K1.out.mono ?_)
  rintro _ w1 ⟨A1, c1, rfl, ho1, hb1⟩
  have hs1 : base ≤ w1.heap.size := Nat.le_trans hbase hb1.size
  go_wp2_with (at_builtin; apply wpList_append_str base hb1 rfl _ _ 31 9 rfl base 5 Tryd.underlying31 Tryd.underlying9 info_u8 _ _ _ ?_ ho1 s ?_ ?_ hs1 (Nat.le_refl _) ?_; exact rfl; exact rfl; omega; intro A' c' w' hown' hb')
  go_ret
  exact ⟨A', c', rfl, hown', hb'⟩

end Go.Proofs.YtkcdkjpmbjcmdaaDoor

/-
  The reference's text: two bytes of length, then the string, behind what is owned.
-/
namespace Go.Proofs.YtkcdkjpmbjcmdaaDoor
open Go.RowKit

theorem refText (base : Nat) (xs : List UInt8) (m : Nat) (A : Option Addr) (c : Nat) (s : ByteArray) (hs : s.size ≤ 65535) (w : World)
    (hown : w.ownsRow base 5 1 (.slice A m c) m (xs.map bv)) (hbase : base ≤ w.heap.size) (hn : m ≤ 140737488251232) :
    Calls Tryd.prog 76 #[.slice A m c, .string s] w fun e w' => ∃ A' c', e = .returned (.slice A' (m + 2 + s.size) c') ∧ w'.ownsRow base 5 1 (.slice A' (m + 2 + s.size) c') (m + 2 + s.size) ((xs ++ big 2 s.size ++ sb s).map bv) ∧ Below base w w' := by
  have K1 := Lib.hid (big_walk (s.size : Int) 2 s.size 2 rfl rfl (by omega) (by omega) w)
  have HO := Lib.hid hown
  clear hown
  go_enter Tryd.func76, Tryd.ntmps76
  go_wp2_with fail
  (with_reducible refine K1.out.mono ?_)
  rintro _ w1 ⟨A1, c1, rfl, ho1, hb1⟩
  have HO1 := Lib.hid (own_below HO.out hb1)
  have HR1 := Lib.hid (RB.of_ownN ho1)
  have HB1 := Lib.hid (hb1.mono hbase)
  have hs1 : base ≤ w1.heap.size := Nat.le_trans hbase hb1.size
  clear HO ho1 hb1 K1
  go_wp2_with (first
    | (at_builtin; apply wpList_append_bytes base HB1.out rfl _ _ 31 rfl base 5 Tryd.underlying31 info_u8 _ _ xs ?_ HO1.out A1 2 c1 (big 2 s.size) rfl ?_ HR1.out ?_ hs1 (Nat.le_refl _) ?_; exact rfl; exact rfl; omega; intro A2 c2 w2 ho2 hb2; have hs2 : base ≤ w2.heap.size := Nat.le_trans hbase hb2.size)
    | (at_builtin; apply wpList_append_str base hb2 rfl _ _ 31 9 rfl base 5 Tryd.underlying31 Tryd.underlying9 info_u8 _ _ _ ?_ ho2 s ?_ ?_ hs2 (Nat.le_refl _) ?_; exact rfl; exact rfl; omega; intro A' c' w' hown' hb'))
  go_ret
  exact ⟨A', c', rfl, hown', hb'⟩

end Go.Proofs.YtkcdkjpmbjcmdaaDoor

/-
  kioskref18.plain: no '+' and no '#' in a string (a loop over its bytes).
-/
namespace Go.Proofs.YtkcdkjpmbjcmdaaDoor
open Go.RowKit

def plainOf : List UInt8 → Bool
  | [] => true
  | x :: xs => if x == 43 || x == 35 then false else plainOf xs

theorem sb_drop (s : ByteArray) (k : Nat) (h : k < s.size) : (sb s).drop k = s[k] :: (sb s).drop (k + 1) := by
  rw [List.drop_eq_getElem_cons (by rw [sb_length]; exact h)]
  rfl
theorem byte_eq (u v : UInt8) : ((u.toNat : Int) = (v.toNat : Int)) ↔ u = v := by
  constructor
  · intro h
    exact UInt8.toNat_inj.1 (by omega)
  · rintro rfl
    rfl

theorem plain_hit {xs zs ys : List UInt8} {u : UInt8} (hf : plainOf zs = plainOf xs) (hd : zs = u :: ys) (h : (u.toNat : Int) = 43 ∨ (u.toNat : Int) = 35) : plainOf xs = false := by
  rw [← hf, hd, plainOf]
  rcases h with h | h
  · rw [(byte_eq u 43).1 h]; rfl
  · rw [(byte_eq u 35).1 h]; rfl
theorem plain_miss {xs zs ys : List UInt8} {u : UInt8} (hf : plainOf zs = plainOf xs) (hd : zs = u :: ys) (h1 : ¬ (u.toNat : Int) = 43) (h2 : ¬ (u.toNat : Int) = 35) : plainOf ys = plainOf xs := by
  rw [← hf, hd, plainOf]
  have a : (u == 43) = false := by simpa using fun e => h1 (by rw [e]; rfl)
  have b : (u == 35) = false := by simpa using fun e => h2 (by rw [e]; rfl)
  rw [a, b]; rfl
theorem plain_end {xs zs : List UInt8} (hf : plainOf zs = plainOf xs) (hd : zs = []) : plainOf xs = true := by
  rw [← hf, hd]; rfl

theorem refPlain (s : ByteArray) (hs : s.size ≤ 140737488351232) (w : World) :
    Calls Tryd.prog 53 #[.string s] w fun e w' => e = .returned (.bool (plainOf (sb s))) ∧ w = w' := by
  have HF := Lib.hid (show plainOf ((sb s).drop 0) = plainOf (sb s) from rfl)
  go_enter Tryd.func53, Tryd.ntmps53
  go_wp2
  go_loop [2, 3] (fun v i => ∃ k : Nat, i = .int .i64 k ∧ v = .bool false ∧ k ≤ s.size ∧ Hid (plainOf ((sb s).drop k) = plainOf (sb s))) (fun _ i => s.size - (intOf i).toNat)
  case atStart => exact ⟨0, rfl, rfl, Nat.zero_le _, HF⟩
  case round =>
    obtain ⟨k, rfl, rfl, hk, hf⟩ := hrel
    by_cases hlt : k < s.size
    · have hd := Lib.hid (sb_drop s k hlt)
      by_cases h1 : (s[k].toNat : Int) = 43
      · have HP := Lib.hid (plain_hit hf.out hd.out (Or.inl h1))
        clear hf hd
        go_wp2
        go_ret
        exact ⟨by rw [HP.out]; rfl, rfl⟩
      · by_cases h2 : (s[k].toNat : Int) = 35
        · have HP := Lib.hid (plain_hit hf.out hd.out (Or.inr h2))
          clear hf hd
          go_wp2
          go_ret
          exact ⟨by rw [HP.out]; rfl, rfl⟩
        · have HP := Lib.hid (plain_miss hf.out hd.out h1 h2)
          have e1 : ((s[k].toNat : Int) == 43) = false := by rw [beq_eq_false_iff_ne]; exact h1
          have e2 : ((s[k].toNat : Int) == 35) = false := by rw [beq_eq_false_iff_ne]; exact h2
          clear h1 h2
          clear hf hd
          go_wp2
          go_round
          case rel => exact ⟨k + 1, by go_num, rfl, by omega, HP⟩
          case measure => simp [intOf]; omega
    · have HP := Lib.hid (plain_end hf.out (List.drop_eq_nil_of_le (by rw [sb_length]; omega)))
      clear hf
      go_wp2
      go_ret
      exact ⟨by rw [HP.out]; rfl, rfl⟩

end Go.Proofs.YtkcdkjpmbjcmdaaDoor

/-
  kioskref18.Text, given what utf8.ValidString answers at the string in this world.
-/
namespace Go.Proofs.YtkcdkjpmbjcmdaaDoor
open Go.RowKit

def noZero : List UInt8 → Bool
  | [] => true
  | x :: xs => if x == 0 then false else noZero xs
theorem zero_hit {xs zs ys : List UInt8} {u : UInt8} (hf : noZero zs = noZero xs) (hd : zs = u :: ys) (h : (u.toNat : Int) = 0) : noZero xs = false := by
  rw [← hf, hd, noZero, (byte_eq u 0).1 h]; rfl
theorem zero_miss {xs zs ys : List UInt8} {u : UInt8} (hf : noZero zs = noZero xs) (hd : zs = u :: ys) (h1 : ¬ (u.toNat : Int) = 0) : noZero ys = noZero xs := by
  rw [← hf, hd, noZero]
  have a : (u == 0) = false := by simpa using fun e => h1 (by rw [e]; rfl)
  rw [a]; rfl
theorem zero_end {xs zs : List UInt8} (hf : noZero zs = noZero xs) (hd : zs = []) : noZero xs = true := by
  rw [← hf, hd]; rfl
/-- a text: its size between l and m, valid, no zero byte. -/
def textB (vb : Bool) (s : ByteArray) (l m : Int) : Bool := inRB s.size l m && (vb && noZero (sb s))

theorem refTextW (s : ByteArray) (hs : s.size ≤ 140737488351232) (l m : Int) (vb : Bool) (w : World)
    (hv : Calls Tryd.prog 75 #[.string s] w fun e w' => e = .returned (.bool vb) ∧ Below w.heap.size w w') :
    Calls Tryd.prog 50 #[.string s, .int .i64 l, .int .i64 m] w fun e w' => e = .returned (.bool (textB vb s l m)) ∧ Below w.heap.size w w' := by
  have HF := Lib.hid (show noZero ((sb s).drop 0) = noZero (sb s) from rfl)
  have HV := Lib.hid hv
  clear hv
  by_cases h1 : (s.size : Int) < l
  · have HP := Lib.hid (show textB vb s l m = false by unfold textB; rw [show inRB s.size l m = false from Bool.eq_false_iff.2 fun h => absurd (inRB_iff.1 h).1 (by omega)]; rfl)
    go_enter Tryd.func50, Tryd.ntmps50
    go_wp2
    go_ret
    exact ⟨by rw [HP.out]; rfl, Below.refl _ _⟩
  by_cases h2 : m < (s.size : Int)
  · have HP := Lib.hid (show textB vb s l m = false by unfold textB; rw [show inRB s.size l m = false from Bool.eq_false_iff.2 fun h => absurd (inRB_iff.1 h).2 (by omega)]; rfl)
    go_enter Tryd.func50, Tryd.ntmps50
    go_wp2
    go_ret
    exact ⟨by rw [HP.out]; rfl, Below.refl _ _⟩
  have HI : Hid (textB vb s l m = (vb && noZero (sb s))) := Lib.hid (by unfold textB; rw [inRB_iff.2 ⟨by omega, by omega⟩]; rfl)
  cases vb with
  | false =>
    go_enter Tryd.func50, Tryd.ntmps50
    go_wp2_with (go_at_call 75; (with_reducible refine HV.out.mono ?_); rintro _ w1 ⟨rfl, hb1⟩; have hb2 := Lib.hid hb1; clear hb1)
    go_ret
    exact ⟨by rw [HI.out]; rfl, hb2.out⟩
  | true =>
    go_enter Tryd.func50, Tryd.ntmps50
    go_wp2_with (go_at_call 75; (with_reducible refine HV.out.mono ?_); rintro _ w1 ⟨rfl, hb1⟩; have hb2 := Lib.hid hb1; clear hb1)
    clear HV
    go_loop [6, 7] (fun v i => ∃ k : Nat, i = .int .i64 k ∧ v = .bool false ∧ k ≤ s.size ∧ Hid (noZero ((sb s).drop k) = noZero (sb s))) (fun _ i => s.size - (intOf i).toNat)
    case atStart => exact ⟨0, rfl, rfl, Nat.zero_le _, HF⟩
    case round =>
      obtain ⟨k, rfl, rfl, hk, hf⟩ := hrel
      by_cases hlt : k < s.size
      · have hd := Lib.hid (sb_drop s k hlt)
        by_cases h1 : (s[k].toNat : Int) = 0
        · have HP := Lib.hid (zero_hit hf.out hd.out h1)
          clear hf hd
          go_wp2
          go_ret
          exact ⟨by rw [HI.out, HP.out]; rfl, hb2.out⟩
        · have HP := Lib.hid (zero_miss hf.out hd.out h1)
          have e1 : ((s[k].toNat : Int) == 0) = false := by rw [beq_eq_false_iff_ne]; exact h1
          clear hf hd h1
          go_wp2
          go_round
          case rel => exact ⟨k + 1, by go_num, rfl, by omega, HP⟩
          case measure => simp [intOf]; omega
      · have HP := Lib.hid (zero_end hf.out (List.drop_eq_nil_of_le (by rw [sb_length]; omega)))
        clear hf
        go_wp2
        go_ret
        exact ⟨by rw [HI.out, HP.out]; rfl, hb2.out⟩

end Go.Proofs.YtkcdkjpmbjcmdaaDoor

/-
  pack.Text and pack.topic, given what utf8.ValidString, strings.Contains and strings.ContainsAny answer in this world.
-/
namespace Go.Proofs.YtkcdkjpmbjcmdaaDoor
open Go.RowKit

theorem packTextW (s : ByteArray) (_hs : s.size ≤ 140737488351232) (l m : Int) (vb : Bool) (w : World)
    (hv : Calls Tryd.prog 75 #[.string s] w fun e w' => e = .returned (.bool vb) ∧ Below w.heap.size w w')
    (hc : ∀ w1, Below w.heap.size w w1 → Calls Tryd.prog 107 #[.string s, .string { data := #[0] }] w1 fun e w' => e = .returned (.bool (!noZero (sb s))) ∧ Below w1.heap.size w1 w') :
    Calls Tryd.prog 104 #[.string s, .int .i64 l, .int .i64 m] w fun e w' => e = .returned (.bool (textB vb s l m)) ∧ Below w.heap.size w w' := by
  have HV := Lib.hid hv
  have HC := Lib.hid hc
  have HW := Lib.hid (packWithin (s.size : Int) l m w)
  clear hv hc
  cases hb : inRB s.size l m with
  | false =>
    rw [hb] at HW
    have HP := Lib.hid (show textB vb s l m = false by unfold textB; rw [hb]; rfl)
    go_enter Tryd.func104, Tryd.ntmps104
    go_wp2_with (go_at_call 88; (with_reducible refine HW.out.mono ?_); rintro _ w1 ⟨rfl, rfl⟩)
    go_ret
    exact ⟨by rw [HP.out]; rfl, Below.refl _ _⟩
  | true =>
    rw [hb] at HW
    have HI := Lib.hid (show textB vb s l m = (vb && noZero (sb s)) by unfold textB; rw [hb]; rfl)
    cases vb with
    | false =>
      go_enter Tryd.func104, Tryd.ntmps104
      go_wp2_with (first
        | (go_at_call 88; (with_reducible refine HW.out.mono ?_); rintro _ w1 ⟨rfl, rfl⟩)
        | (go_at_call 75; (with_reducible refine HV.out.mono ?_); rintro _ w2 ⟨rfl, hb2⟩; have HB2 := Lib.hid hb2; clear hb2))
      go_ret
      exact ⟨by rw [HI.out]; rfl, HB2.out⟩
    | true =>
      go_enter Tryd.func104, Tryd.ntmps104
      go_wp2_with (first
        | (go_at_call 88; (with_reducible refine HW.out.mono ?_); rintro _ w1 ⟨rfl, rfl⟩)
        | (go_at_call 75; (with_reducible refine HV.out.mono ?_); rintro _ w2 ⟨rfl, hb2⟩; have HB2 := Lib.hid hb2; clear hb2)
        | (go_at_call 107; (with_reducible refine (HC.out w2 HB2.out).mono ?_); rintro _ w3 ⟨rfl, hb3⟩; have HB3 := Lib.hid (HB2.out.trans (hb3.mono HB2.out.size)); clear hb3))
      go_ret
      exact ⟨by rw [HI.out]; simp, HB3.out⟩

/-- a topic: a text of 1 to 64 bytes with no '+' and no '#'. -/
theorem packTopicW (s : ByteArray) (hs : s.size ≤ 140737488351232) (vb : Bool) (w : World)
    (hv : Calls Tryd.prog 75 #[.string s] w fun e w' => e = .returned (.bool vb) ∧ Below w.heap.size w w')
    (hc : ∀ w1, Below w.heap.size w w1 → Calls Tryd.prog 107 #[.string s, .string { data := #[0] }] w1 fun e w' => e = .returned (.bool (!noZero (sb s))) ∧ Below w1.heap.size w1 w')
    (ha : ∀ w1, Below w.heap.size w w1 → Calls Tryd.prog 108 #[.string s, .string { data := #[43, 35] }] w1 fun e w' => e = .returned (.bool (!plainOf (sb s))) ∧ Below w1.heap.size w1 w') :
    Calls Tryd.prog 106 #[.string s] w fun e w' => e = .returned (.bool (textB vb s 1 64 && plainOf (sb s))) ∧ Below w.heap.size w w' := by
  have HT := Lib.hid (packTextW s hs 1 64 vb w hv hc)
  have HA := Lib.hid ha
  clear hv hc ha
  cases hb : textB vb s 1 64 with
  | false =>
    rw [hb] at HT
    go_enter Tryd.func106, Tryd.ntmps106
    go_wp2_with (go_at_call 104; (with_reducible refine HT.out.mono ?_); rintro _ w2 ⟨rfl, hb2⟩; have HB2 := Lib.hid hb2; clear hb2)
    go_ret
    exact ⟨rfl, HB2.out⟩
  | true =>
    rw [hb] at HT
    go_enter Tryd.func106, Tryd.ntmps106
    go_wp2_with (first
      | (go_at_call 104; (with_reducible refine HT.out.mono ?_); rintro _ w2 ⟨rfl, hb2⟩; have HB2 := Lib.hid hb2; clear hb2)
      | (go_at_call 108; (with_reducible refine (HA.out w2 HB2.out).mono ?_); rintro _ w3 ⟨rfl, hb3⟩; have HB3 := Lib.hid (HB2.out.trans (hb3.mono HB2.out.size)); clear hb3))
    go_ret
    exact ⟨by simp, HB3.out⟩

end Go.Proofs.YtkcdkjpmbjcmdaaDoor

/-
  Packets of chapter 18, without a program: which may be, what bytes they have.
-/
namespace Go.Proofs.YtkcdkjpmbjcmdaaDoor
open Go.RowKit

structure Mq where
  kind : Int
  client : ByteArray
  clean : Bool
  keep : Int
  won : Bool
  wt : ByteArray
  wp : ByteArray
  wq : Int
  wr : Bool
  user : ByteArray
  hu : Bool
  pass : ByteArray
  hp : Bool
  present : Bool
  code : Int
  codes : List Int
  dup : Bool
  qos : Int
  retain : Bool
  topic : ByteArray
  id : Int
  payload : ByteArray
  wishes : List (ByteArray × Int)
  filters : List ByteArray

abbrev nos : ByteArray := ⟨#[]⟩
/-- the packet of a kind that has nothing else. -/
def mq0 (k : Int) : Mq := ⟨k, nos, false, 0, false, nos, nos, 0, false, nos, false, nos, false, false, 0, [], false, 0, false, nos, 0, nos, [], []⟩

/-- a text's bytes are valid. -/
def vd (s : ByteArray) : Bool := Lib.validD (sb s)
def textOk (s : ByteArray) (l m : Int) : Bool := textB (vd s) s l m
def topicOk (s : ByteArray) : Bool := textOk s 1 64 && plainOf (sb s)
def emp (s : ByteArray) : Bool := s.size == 0

def willOk (m : Mq) : Bool := if m.won then textOk m.wt 1 64 && (decide ((m.wp.size : Int) ≤ 128) && inRB m.wq 0 2) else emp m.wt && (emp m.wp && (m.wq == 0 && !m.wr))
def connectOk (m : Mq) : Bool :=
  textOk m.client 0 23 && (inRB m.keep 0 65535 && (willOk m && (textOk m.user 0 64 && (decide ((m.pass.size : Int) ≤ 64) && ((m.hu || (emp m.user && !m.hp)) && (m.hp || emp m.pass))))))
def publishOk (m : Mq) : Bool :=
  topicOk m.topic && (inRB m.qos 0 2 && (((decide (0 < m.qos) && inRB m.id 1 65535) || (m.qos == 0 && (m.id == 0 && !m.dup))) && decide ((m.payload.size : Int) ≤ 128)))
def wishesAll : List (ByteArray × Int) → Bool
  | [] => true
  | x :: xs => (textOk x.1 1 64 && inRB x.2 0 2) && wishesAll xs
def codesAll : List Int → Bool
  | [] => true
  | x :: xs => (inRB x 0 2 || x == 128) && codesAll xs
def filtersAll : List ByteArray → Bool
  | [] => true
  | x :: xs => textOk x 1 64 && filtersAll xs
def wishesOk (l : List (ByteArray × Int)) : Bool := wishesAll l && inRB l.length 1 8
def codesOk (l : List Int) : Bool := codesAll l && inRB l.length 1 8
def filtersOk (l : List ByteArray) : Bool := filtersAll l && inRB l.length 1 8

/-- which kinds have a packet identifier alone -/
def idKind (k : Int) : Bool := k == 4 || (k == 5 || (k == 6 || (k == 7 || k == 11)))
def bareKind (k : Int) : Bool := k == 12 || (k == 13 || k == 14)

/-- is what the kind names as it must be? -/
def okOf (m : Mq) : Bool :=
  if m.kind = 1 then connectOk m
  else if m.kind = 2 then inRB m.code 0 5 && (!m.present || m.code == 0)
  else if m.kind = 3 then publishOk m
  else if idKind m.kind then inRB m.id 1 65535
  else if m.kind = 8 then inRB m.id 1 65535 && wishesOk m.wishes
  else if m.kind = 9 then inRB m.id 1 65535 && codesOk m.codes
  else if m.kind = 10 then inRB m.id 1 65535 && filtersOk m.filters
  else bareKind m.kind

/-- what the kind names, and nothing else. -/
def onlyOf (m : Mq) : Mq :=
  if m.kind = 1 then { mq0 m.kind with client := m.client, clean := m.clean, keep := m.keep, won := m.won, wt := m.wt, wp := m.wp, wq := m.wq, wr := m.wr, user := m.user, hu := m.hu, pass := m.pass, hp := m.hp }
  else if m.kind = 2 then { mq0 m.kind with present := m.present, code := m.code }
  else if m.kind = 3 then { mq0 m.kind with topic := m.topic, qos := m.qos, dup := m.dup, retain := m.retain, id := m.id, payload := m.payload }
  else if idKind m.kind then { mq0 m.kind with id := m.id }
  else if m.kind = 8 then { mq0 m.kind with id := m.id, wishes := m.wishes }
  else if m.kind = 9 then { mq0 m.kind with id := m.id, codes := m.codes }
  else if m.kind = 10 then { mq0 m.kind with id := m.id, filters := m.filters }
  else mq0 m.kind

/-- a packet that may be. -/
def mayB (m : Mq) : Prop := okOf m = true ∧ m = onlyOf m

/-- a text's bytes, their number ahead. -/
def strB (s : ByteArray) : List UInt8 := big 2 s.size ++ sb s
def cb (b : Bool) (n : Nat) : Nat := if b then n else 0
def flagsC (m : Mq) : Nat := cb m.clean 2 + cb m.won 4 + 8 * m.wq.toNat + cb m.wr 32 + cb m.hp 64 + cb m.hu 128
def connectBy (m : Mq) : List UInt8 :=
  big 2 4 ++ [77, 81, 84, 84] ++ [4, UInt8.ofNat (flagsC m)] ++ big 2 m.keep.toNat ++ strB m.client
    ++ (if m.won then strB m.wt ++ strB m.wp else []) ++ (if m.hu then strB m.user else []) ++ (if m.hp then strB m.pass else [])
def publishBy (m : Mq) : List UInt8 := strB m.topic ++ (if 0 < m.qos then big 2 m.id.toNat else []) ++ sb m.payload
def wishesBy : List (ByteArray × Int) → List UInt8
  | [] => []
  | x :: xs => strB x.1 ++ [UInt8.ofNat x.2.toNat] ++ wishesBy xs
def codesBy : List Int → List UInt8
  | [] => []
  | x :: xs => UInt8.ofNat x.toNat :: codesBy xs
def filtersBy : List ByteArray → List UInt8
  | [] => []
  | x :: xs => strB x ++ filtersBy xs
def bodyBy (m : Mq) : List UInt8 :=
  if m.kind = 1 then connectBy m
  else if m.kind = 2 then [UInt8.ofNat (cb m.present 1), UInt8.ofNat m.code.toNat]
  else if m.kind = 3 then publishBy m
  else if m.kind = 8 then big 2 m.id.toNat ++ wishesBy m.wishes
  else if m.kind = 9 then big 2 m.id.toNat ++ codesBy m.codes
  else if m.kind = 10 then big 2 m.id.toNat ++ filtersBy m.filters
  else if bareKind m.kind then []
  else big 2 m.id.toNat
def flagsBy (m : Mq) : Nat :=
  if m.kind = 3 then cb m.dup 8 + 2 * m.qos.toNat + cb m.retain 1
  else if m.kind = 8 then 2 else if m.kind = 10 then 2 else if m.kind = 6 then 2 else 0
/-- a length, seven bits a byte. -/
def vlen (n : Nat) : List UInt8 := if n < 128 then [UInt8.ofNat n] else UInt8.ofNat (n % 128 + 128) :: vlen (n / 128)
decreasing_by omega
def layB (m : Mq) : List UInt8 := UInt8.ofNat (16 * m.kind.toNat + flagsBy m) :: (vlen (bodyBy m).length ++ bodyBy m)

end Go.Proofs.YtkcdkjpmbjcmdaaDoor

/-
  A scope with a label that is jumped to forward alone.
-/
namespace Go.Proofs.YtkcdkjpmbjcmdaaDoor

theorem wp_scope_fwd {P : Program} {a : Act} {w : World} {Q : Exit → Act → World → Prop} {c rest : Code} (l : Nat) (hf : findLabel c l = some rest)
    (first : c.wp P (Exit.jump l (fun a' w' => rest.wp P (Exit.jump l (fun _ _ => False) Q) a' w') Q) a w) : (Code.scope c).wp P Q a w := by
  refine wp_scope_jumps l (fun a' w' => rest.wp P (Exit.jump l (fun _ _ => False) Q) a' w') (fun _ _ => 0) hf first ?_
  intro a' w' h
  refine Code.wp_mono ?_ h
  intro e a2 w2 h2
  cases e with
  | goto l' => exact ⟨h2.1, h2.2.elim⟩
  | normal => exact h2
  | exit id => exact h2
  | ret => exact h2
  | panic ch => exact h2
  | outgrown => exact h2

end Go.Proofs.YtkcdkjpmbjcmdaaDoor

/-
  What the library answers on texts: valid, a zero byte, '+' or '#', at every string.
-/
namespace Go.Proofs.YtkcdkjpmbjcmdaaDoor
open Go.RowKit

/-- the library's two tables are as they were laid. -/
def Wd (w : World) : Prop := Lib.Utf8Tabs (Sh.lays196_ren.g 3) (Sh.lays196_ren.g 4) w
theorem Wd.below {w w' : World} (h : Wd w) (hb : Below w.heap.size w w') : Wd w' := by
  obtain ⟨h1, h2⟩ := h
  have k : ∀ (a : Addr) (v : Value), w.cell? a = some v → w'.cell? a = some v := fun a v hv => (hb.cell (World.block_lt_of_cell? w a hv)).trans hv
  exact ⟨fun c hc => k _ _ (h1 c hc), fun i hi => ⟨k _ _ (h2 i hi).1, k _ _ (h2 i hi).2⟩⟩
theorem Wd.drew {w : World} (h : Wd w) : Wd w.drew := h

theorem validW (s : ByteArray) (hs : s.size ≤ 140737488351232) (w : World) (hT : Wd w) :
    Calls Tryd.prog 75 #[.string s] w fun e w' => e = .returned (.bool (vd s)) ∧ Below w.heap.size w w' := Sh.utf8_ValidString s w (by omega) hT

theorem contains_noZero (xs : List UInt8) : xs.contains 0 = !noZero xs := by
  induction xs with
  | nil => rfl
  | cons x xs ih =>
    by_cases h : x = 0
    · subst h; simp [noZero]
    · have h1 : (x == 0) = false := by simpa using h
      have h2 : ((0 : UInt8) == x) = false := by simpa using fun e => h e.symm
      simp only [List.contains_cons, h2, Bool.false_or, ih, noZero, h1]
      rfl
theorem zeroW (s : ByteArray) (w : World) :
    Calls Tryd.prog 107 #[.string s, .string { data := #[0] }] w fun e w' => e = .returned (.bool (!noZero (sb s))) ∧ w = w' := by
  refine (Sh.strings_Contains_one s 0 w).mono ?_
  rintro e w' ⟨rfl, rfl⟩
  refine ⟨?_, rfl⟩
  rw [← contains_noZero, Lib.contains_iff_indexByte]

theorem quiet_add_same {P : Program} {f : FuncId} {args : Array Value} {w : World} {a n : Nat} {v : Value}
    (h : Calls P f args (w.drewN (a + n)) fun e w' => e = .returned v ∧ w' = w.drewN (a + n)) :
    Calls P f args (w.drewN (a + n)) fun e w'' => e = .returned v ∧ ∃ m, w'' = w.drewN (a + m) :=
  h.mono fun _ _ ⟨he, hm⟩ => ⟨he, n, hm⟩

theorem same_left {P : Program} {f : FuncId} {args : Array Value} {w : World} {v : Value} (h : Calls P f args w fun e w' => e = .returned v ∧ w' = w) : Calls P f args w fun e w' => e = .returned v ∧ w = w' :=
  h.mono fun _ _ ⟨a, b⟩ => ⟨a, b.symm⟩

/-! '+' or '#' -/
abbrev pm : ByteArray := { data := #[43, 35] }
theorem decode_span (s : ByteArray) (pos : Nat) (h : pos < s.size) (ha : 128 ≤ (s[pos]'h).toNat) : ∀ j, j < (Utf8.decode s pos).2 → pos + j < s.size ∧ 128 ≤ (s.get! (pos + j)).toNat := by
  have h0 : 128 ≤ (s.get! (pos + 0)).toNat := by rw [get_at s pos h]; exact ha
  have hn : ¬ (s.get! (pos + 0)).toNat < 128 := by omega
  have hp : pos + 0 < s.size := h
  intro j hj
  simp only [Utf8.decode, hn, if_false] at hj
  have k2 : ∀ k, (decide (pos + k < s.size) && ((s.get! (pos + k)).toNat / 64 == 2)) = true → pos + k < s.size ∧ 128 ≤ (s.get! (pos + k)).toNat := by
    intro k hk
    simp only [Bool.and_eq_true, decide_eq_true_eq, beq_iff_eq] at hk
    exact ⟨hk.1, by omega⟩
  have one : ∀ {j}, j < 1 → pos + j < s.size ∧ 128 ≤ (s.get! (pos + j)).toNat := fun {j} hj => by
    obtain rfl : j = 0 := by omega
    exact ⟨hp, h0⟩
  split at hj
  · rename_i hc
    simp only [Bool.and_eq_true] at hc
    split at hj
    · have hj' : j = 0 ∨ j = 1 := by simp only at hj; omega
      rcases hj' with rfl | rfl
      · exact ⟨hp, h0⟩
      · exact k2 1 (by simpa using hc.2)
    · exact one hj
  · split at hj
    · rename_i hc
      simp only [Bool.and_eq_true] at hc
      split at hj
      · have hj' : j = 0 ∨ j = 1 ∨ j = 2 := by simp only at hj; omega
        rcases hj' with rfl | rfl | rfl
        · exact ⟨hp, h0⟩
        · exact k2 1 (by simpa using hc.1.2)
        · exact k2 2 (by simpa using hc.2)
      · exact one hj
    · split at hj
      · rename_i hc
        simp only [Bool.and_eq_true] at hc
        split at hj
        · have hj' : j = 0 ∨ j = 1 ∨ j = 2 ∨ j = 3 := by simp only at hj; omega
          rcases hj' with rfl | rfl | rfl | rfl
          · exact ⟨hp, h0⟩
          · exact k2 1 (by simpa using hc.1.1.2)
          · exact k2 2 (by simpa using hc.1.2)
          · exact k2 3 (by simpa using hc.2)
        · exact one hj
      · exact one hj
theorem plain_skip (s : ByteArray) (pos : Nat) : ∀ n, (∀ j, j < n → pos + j < s.size ∧ 128 ≤ (s.get! (pos + j)).toNat) → plainOf ((sb s).drop (pos + n)) = plainOf ((sb s).drop pos)
  | 0, _ => rfl
  | n + 1, h => by
    rw [← plain_skip s pos n (fun j hj => h j (by omega))]
    obtain ⟨h1, h2⟩ := h n (by omega)
    have e : s.get! (pos + n) = s[pos + n]'h1 := get_at s (pos + n) h1
    rw [e] at h2
    rw [sb_drop s (pos + n) h1, plainOf]
    have a : (s[pos + n] == 43) = false := by rw [beq_eq_false_iff_ne]; intro e; rw [e] at h2; exact absurd h2 (by decide)
    have b : (s[pos + n] == 35) = false := by rw [beq_eq_false_iff_ne]; intro e; rw [e] at h2; exact absurd h2 (by decide)
    rw [a, b]
    rfl

set_option maxRecDepth 100000 in
set_option maxHeartbeats 1600000 in
theorem runeHigh (r : Int) (h1 : 128 ≤ r) (h2 : r ≤ 2147483647) (w : World) :
    Calls Tryd.prog 112 #[.string pm, .int .i32 r] w fun e w' => e = .returned (.int .i64 (-1)) ∧ Below w.heap.size w w' := by
  have h0 : (0 : Int) ≤ r := by omega
  have h128 : decide (r < 128) = false := decide_eq_false (by omega)
  by_cases hE : r = 65533
  · subst hE
    go_enter Tryd.func112, Tryd.ntmps112
    go_wp2
    go_loopg [5, 6] 2 (fun gk _ _ wx => ∃ i : Nat, i + gk = 2 ∧ wx = w.iter pm i)
    case atStart => exact ⟨0, rfl, rfl⟩
    case round =>
      obtain ⟨i, hig, rfl⟩ := hrel
      cases gk with
      | zero =>
        obtain rfl : i = 2 := by omega
        have hnx := run_next_end (P := Tryd.prog) w pm 2
        go_wp2
        go_ret
        exact ⟨rfl, balloc w _⟩
      | succ g =>
        have hi : i = 0 ∨ i = 1 := by omega
        rcases hi with rfl | rfl
        · have hnx := fun ty => run_next_ascii (P := Tryd.prog) w pm 0 ty (by decide) (by decide)
          go_wp2
          go_roundg g
          case measure => omega
          case rel => exact ⟨1, by omega, rfl⟩
        · have hnx := fun ty => run_next_ascii (P := Tryd.prog) w pm 1 ty (by decide) (by decide)
          go_wp2
          go_roundg g
          case measure => omega
          case rel => exact ⟨2, by omega, rfl⟩
  · have hE' : (r == 65533) = false := by rw [beq_eq_false_iff_ne]; exact hE
    have KV := Lib.hid (Sh.utf8_ValidRune r w)
    cases hv : Lib.validRune r with
    | false =>
      rw [hv] at KV
      go_enter Tryd.func112, Tryd.ntmps112
      go_wp2_with (go_at_call 121; (with_reducible refine KV.out.mono ?_); rintro _ w' ⟨rfl, rfl⟩)
      go_ret
      exact ⟨rfl, Below.refl _ _⟩
    | true =>
      rw [hv] at KV
      have hu : Utf8.valid r = true := by
        have := hv
        simp only [Lib.validRune, decide_eq_true_eq] at this
        simp [Utf8.valid]
        omega
      obtain ⟨s2, s4, slast⟩ := encode_facts r hu h1
      obtain ⟨nd, hnd⟩ : ∃ nd, Utf8.encode r = nd := ⟨_, rfl⟩
      rw [hnd] at s2 s4 slast
      have hs : nd.size = 2 ∨ 2 < nd.size := by omega
      clear hu
      rcases hs with hs | hs
      · have hl : 128 ≤ (nd[1]'(by omega)).toNat := by
          have := slast (by omega)
          simpa [hs] using this
        have hi1 : (1 : Nat) < nd.size := by omega
        have hi1I : (1 : Int) < (nd.size : Int) := by omega
        obtain ⟨y, hy⟩ : ∃ y, nd[1]'(by omega) = y := ⟨_, rfl⟩
        rw [hy] at hl
        have hne : (((pm[1]'(by decide)).toNat : Int) != (y.toNat : Int)) = true := by
          have : (pm[1]'(by decide)).toNat = 35 := rfl
          rw [bne_iff_ne, this]
          omega
        go_enter Tryd.func112, Tryd.ntmps112
        go_wp2_with (go_at_call 121; (with_reducible refine KV.out.mono ?_); rintro _ w' ⟨rfl, rfl⟩)
        refine wp_scope_fwd 1 rfl ?_
        go_wp2
        refine wp_loop_rounds 1 ?_
        rw [rounds_succ]
        go_wp2
        refine wp_scope_fwd 0 rfl ?_
        go_wp2
        go_quiet (fail)
        go_wp2
        have hw2 : IntKind.i64.wrap 2 = 2 := by decide
        have hix : ∀ c : UInt8, Lib.indexByte (pm.extract 2 2).data.toList c = -1 := fun c => rfl
        go_quiet ((go_at_call 120; exact quiet_add_same (Sh.strings_IndexByte _ _ _)))
        go_wp2
        simp only [Exit.jump]
        go_wp2
        simp only [Exit.jump]
        go_ret
        exact ⟨rfl, below_drewN (Below.refl _ _) _⟩
      · have e1 : (2 : Int) ≤ (nd.size : Int) - 1 := by omega
        go_enter Tryd.func112, Tryd.ntmps112
        go_wp2_with (go_at_call 121; (with_reducible refine KV.out.mono ?_); rintro _ w' ⟨rfl, rfl⟩)
        refine wp_scope_fwd 1 rfl ?_
        go_wp2
        refine wp_loop_rounds 1 ?_
        rw [rounds_succ]
        go_wp2
        simp only [Exit.jump]
        go_ret
        exact ⟨rfl, Below.refl _ _⟩

theorem plain_any (xs : List UInt8) : decide (0 ≤ Lib.indexAny xs (sb pm)) = !plainOf xs := by
  induction xs with
  | nil => rfl
  | cons x xs ih =>
    have h1 := Lib.indexAny_ge (sb pm) xs
    by_cases h : x = 43 ∨ x = 35
    · have hc : (sb pm).contains x = true := by rcases h with rfl | rfl <;> rfl
      have hp : plainOf (x :: xs) = false := by rw [plainOf]; rcases h with rfl | rfl <;> rfl
      rw [hp, Lib.indexAny, if_pos hc]
      rfl
    · have a : (x == 43) = false := by rw [beq_eq_false_iff_ne]; exact fun e => h (Or.inl e)
      have b : (x == 35) = false := by rw [beq_eq_false_iff_ne]; exact fun e => h (Or.inr e)
      have hc : (sb pm).contains x = false := by
        show [(43 : UInt8), 35].contains x = false
        rw [List.contains_cons, List.contains_cons, List.contains_nil, a, b]
        rfl
      have hp : plainOf (x :: xs) = plainOf xs := by rw [plainOf, a, b]; rfl
      rw [hp, ← ih, Lib.indexAny, hc, if_neg (by simp)]
      by_cases hm : Lib.indexAny xs (sb pm) = -1
      · rw [hm]; rfl
      · have hm2 : (Lib.indexAny xs (sb pm) == -1) = false := by rw [beq_eq_false_iff_ne]; exact hm
        rw [hm2]
        have h0 : 0 ≤ Lib.indexAny xs (sb pm) := by omega
        rw [if_neg (by simp), decide_eq_true h0, decide_eq_true (by omega)]

/-- strings.IndexAny(s, "+#"): not below 0 just if there is one of the two. -/
def AnyPm (s : ByteArray) (w : World) (e : Ending) (w' : World) : Prop := ∃ v : Int, e = .returned (.int .i64 v) ∧ decide (0 ≤ v) = !plainOf (sb s) ∧ Below w.heap.size w w'
theorem anyLong (s : ByteArray) (h8 : 8 < s.size) (hs : s.size < 4294967281) (w : World) : Calls Tryd.prog 110 #[.string s, .string pm] w (AnyPm s w) := by
  refine (Sh.strings_IndexAny_long (fun _ => by kernel_rfl) s pm w (by decide) h8 hs (by decide) ?_).mono ?_
  · intro j b hb
    match j, hb with
    | 0, hb => simp at hb; subst hb; decide
    | 1, hb => simp at hb; subst hb; decide
  · rintro e w' ⟨rfl, rfl⟩
    exact ⟨_, rfl, plain_any (sb s), (balloc w _).trans ((balloc _ _).mono (balloc w _).size)⟩

set_option maxRecDepth 100000 in
set_option maxHeartbeats 1600000 in
theorem anyShort (s : ByteArray) (h8 : s.size ≤ 8) (w : World) : Calls Tryd.prog 110 #[.string s, .string pm] w (AnyPm s w) := by
  have h8z : decide ((8 : Int) < (s.size : Int)) = false := decide_eq_false (by omega)
  go_enter Tryd.func110, Tryd.ntmps110
  go_wp2_with (go_at_call 113; (with_reducible refine (same_left (Sh.strings_shouldUseASCIISet _ _)).mono ?_); rintro e w' ⟨rfl, rfl⟩)
  go_loopg [9, 10] (s.size + 1) (fun gk _ _ wx => ∃ (i : Nat), s.size < i + gk ∧ i ≤ s.size ∧ Hid (wx.heap[w.heap.size]? = some (.stringIter s i)) ∧ Below w.heap.size w wx ∧ Hid (plainOf ((sb s).drop i) = plainOf (sb s)))
  case atStart => exact ⟨0, by omega, by omega, World.iter_heap w s 0, balloc w _, rfl⟩
  case round =>
    obtain ⟨i, hig, his, hk, hbel, hp⟩ := hrel
    by_cases hi : i < s.size
    · have hd := sb_drop s i hi
      by_cases ha : (s[i]'hi).toNat < 128
      · obtain ⟨x, hx⟩ : ∃ x : UInt8, s[i]'hi = x := ⟨_, rfl⟩
        rw [hx] at ha hd
        have hnx := fun ty => Lib.run_next_ascii_at (P := Tryd.prog) wr w.heap.size s i ty hk.out hi (by rw [hx]; exact ha)
        rw [hx] at hnx
        have hback : ((x.toNat : Int)).toNat.toUInt8 = x := by simp
        have KR := Lib.hid (fun w1 => same_left (Sh.strings_IndexRune_ascii pm (x.toNat : Int) w1 (by omega) (by omega)))
        rw [hback] at KR
        obtain ⟨v, hv⟩ : ∃ v, Lib.indexByte pm.data.toList x = v := ⟨_, rfl⟩
        rw [hv] at KR
        have hb2 := Lib.hid (Lib.below_iterAt hbel (Nat.le_refl _) s (i + 1))
        have hk2 : Hid ((wr.iterAt w.heap.size s (i + 1)).heap[w.heap.size]? = some (.stringIter s (i + 1))) := Lib.iterAt_heap wr w.heap.size s i (i + 1) hk.out
        have hg1 : 1 ≤ gk := by omega
        by_cases hb : x = 43 ∨ x = 35
        · have hge : 0 ≤ v := by
            rw [← hv]
            rcases hb with rfl | rfl <;> decide
          have hf : Hid (plainOf (sb s) = false) := by
            unfold Hid
            rw [← hp.out, hd, plainOf]
            rcases hb with rfl | rfl <;> rfl
          clear hb hv hback hd hx hp ha
          go_wp2_with (go_at_call 112; (with_reducible refine (KR.out _).mono ?_); rintro _ w2 ⟨rfl, rfl⟩)
          go_ret
          exact ⟨(i : Int), rfl, by rw [hf.out]; exact decide_eq_true (by omega), hb2.out⟩
        · have hlt : ¬ 0 ≤ v := by
            rw [← hv]
            have a : (43 : UInt8) ≠ x := fun e => hb (Or.inl e.symm)
            have b : (35 : UInt8) ≠ x := fun e => hb (Or.inr e.symm)
            have hc : pm.data.toList.contains x = false := by
              simp [Ne.symm a, Ne.symm b]
            rw [Lib.contains_iff_indexByte] at hc
            exact of_decide_eq_false hc
          have hf : Hid (plainOf ((sb s).drop (i + 1)) = plainOf (sb s)) := by
            unfold Hid
            rw [← hp.out, hd, plainOf]
            have a : (x == 43) = false := by rw [beq_eq_false_iff_ne]; exact fun e => hb (Or.inl e)
            have b : (x == 35) = false := by rw [beq_eq_false_iff_ne]; exact fun e => hb (Or.inr e)
            rw [a, b]
            rfl
          clear hb hv hback hd hx hp ha
          go_wp2_with (go_at_call 112; (with_reducible refine (KR.out _).mono ?_); rintro _ w2 ⟨rfl, rfl⟩)
          go_roundg (gk - 1)
          case measure => omega
          case rel => exact ⟨i + 1, by omega, by omega, hk2, hb2.out, hf⟩
      · have hsp := decode_span s i hi (by omega)
        obtain ⟨d1, d2⟩ := decode_high s i hi (by omega)
        have d3 := decode_le s i
        have hnx := fun ty => Lib.run_next_any_at (P := Tryd.prog) wr w.heap.size s i ty hk.out hi
        have hf := plain_skip s i _ hsp
        obtain ⟨⟨r, n⟩, hrn⟩ : ∃ q, Utf8.decode s i = q := ⟨_, rfl⟩
        rw [hrn] at hsp d1 d2 d3 hnx hf
        dsimp only at hsp d1 d2 d3 hnx hf
        have hle : i + n ≤ s.size := by have := (hsp (n - 1) (by omega)).1; omega
        have KR := Lib.hid (fun w1 => runeHigh (r : Int) (by omega) (by omega) w1)
        have hf2 : Hid (plainOf ((sb s).drop (i + n)) = plainOf (sb s)) := hf.trans hp.out
        have hb2 := Lib.hid (Lib.below_iterAt hbel (Nat.le_refl _) s (i + n))
        have hk2 : Hid ((wr.iterAt w.heap.size s (i + n)).heap[w.heap.size]? = some (.stringIter s (i + n))) := Lib.iterAt_heap wr w.heap.size s i (i + n) hk.out
        have hlt : w.heap.size < (wr.iterAt w.heap.size s (i + n)).heap.size := (Array.getElem?_eq_some_iff.1 hk2.out).1
        clear hf hd hp hsp hrn ha
        go_wp2_with (go_at_call 112; (with_reducible refine (KR.out _).mono ?_); rintro _ w2 ⟨rfl, hb3⟩; have HB3 := Lib.hid hb3; clear hb3)
        go_roundg (gk - 1)
        case measure => omega
        case rel => exact ⟨i + n, by omega, by omega, (HB3.out.block _ hlt).trans hk2.out, hb2.out.trans (HB3.out.mono (Nat.le_of_lt hlt)), hf2⟩
    · have hnx := Lib.run_next_end_at (P := Tryd.prog) wr w.heap.size s i
      have hnx2 := fun ty => hnx ty hk.out hi
      obtain rfl : i = s.size := by omega
      have hf : Hid (plainOf (sb s) = true) := by
        unfold Hid
        rw [← hp.out, List.drop_eq_nil_of_le (by rw [sb_length]; exact Nat.le_refl _)]
        rfl
      clear hp hnx
      go_wp2
      go_ret
      exact ⟨-1, rfl, by rw [hf.out]; rfl, hbel⟩

theorem anyW (s : ByteArray) (hs : s.size < 4294967281) (w : World) :
    Calls Tryd.prog 108 #[.string s, .string pm] w fun e w' => e = .returned (.bool (!plainOf (sb s))) ∧ Below w.heap.size w w' := by
  have K : Calls Tryd.prog 110 #[.string s, .string pm] w (AnyPm s w) := by
    rcases Nat.lt_or_ge 8 s.size with h | h
    · exact anyLong s h hs w
    · exact anyShort s h w
  unfold AnyPm at K
  generalize (!plainOf (sb s)) = v at *
  have HK := Lib.hid K
  clear K
  go_enter Tryd.func108, Tryd.ntmps108
  go_wp2_with fail
  (with_reducible refine HK.out.mono ?_)
  rintro _ w1 ⟨n, rfl, hn, hb⟩
  have HN := Lib.hid hn
  have HB := Lib.hid hb
  clear HK hn hb
  go_wp2
  go_ret
  exact ⟨by rw [← HN.out]; rfl, HB.out⟩

/-! texts -/
theorem refTextV (s : ByteArray) (hs : s.size ≤ 140737488351232) (l m : Int) (w : World) (hT : Wd w) :
    Calls Tryd.prog 50 #[.string s, .int .i64 l, .int .i64 m] w fun e w' => e = .returned (.bool (textOk s l m)) ∧ Below w.heap.size w w' :=
  refTextW s hs l m (vd s) w (validW s hs w hT)
theorem packTextV (s : ByteArray) (hs : s.size ≤ 140737488351232) (l m : Int) (w : World) (hT : Wd w) :
    Calls Tryd.prog 104 #[.string s, .int .i64 l, .int .i64 m] w fun e w' => e = .returned (.bool (textOk s l m)) ∧ Below w.heap.size w w' :=
  packTextW s hs l m (vd s) w (validW s hs w hT) (fun w1 _ => (zeroW s w1).mono fun _ _ ⟨h1, h2⟩ => ⟨h1, h2 ▸ Below.refl _ _⟩)
theorem textOk_size {s : ByteArray} {l m : Int} (h : textOk s l m = true) : l ≤ s.size ∧ (s.size : Int) ≤ m := by
  unfold textOk textB at h
  rw [Bool.and_eq_true] at h
  exact inRB_iff.1 h.1
theorem packTopicV (s : ByteArray) (hs : s.size ≤ 140737488351232) (w : World) (hT : Wd w) :
    Calls Tryd.prog 106 #[.string s] w fun e w' => e = .returned (.bool (topicOk s)) ∧ Below w.heap.size w w' := by
  have HT := Lib.hid (packTextV s hs 1 64 w hT)
  unfold topicOk
  cases hb : textOk s 1 64 with
  | false =>
    rw [hb] at HT
    go_enter Tryd.func106, Tryd.ntmps106
    go_wp2_with (go_at_call 104; (with_reducible refine HT.out.mono ?_); rintro _ w2 ⟨rfl, hb2⟩; have HB2 := Lib.hid hb2; clear hb2)
    go_ret
    exact ⟨rfl, HB2.out⟩
  | true =>
    have HA := Lib.hid (fun w1 => anyW s (by have := (textOk_size hb).2; omega) w1)
    rw [hb] at HT
    go_enter Tryd.func106, Tryd.ntmps106
    go_wp2_with (first
      | (go_at_call 104; (with_reducible refine HT.out.mono ?_); rintro _ w2 ⟨rfl, hb2⟩; have HB2 := Lib.hid hb2; clear hb2)
      | (go_at_call 108; (with_reducible refine (HA.out w2).mono ?_); rintro _ w3 ⟨rfl, hb3⟩; have HB3 := Lib.hid (HB2.out.trans (hb3.mono HB2.out.size)); clear hb3))
    go_ret
    exact ⟨by simp, HB3.out⟩

end Go.Proofs.YtkcdkjpmbjcmdaaDoor

/-
  How bytes are read as packets of chapter 18, without a program: the reader of package pack and that of the page.
-/
namespace Go.Proofs.YtkcdkjpmbjcmdaaDoor
open Go.RowKit

/-- what is left, and whether something was wrong. -/
abbrev Rd := List UInt8 × Bool
/-- package pack's reader: so many bytes. -/
def takeP (s : Rd) (n : Nat) : List UInt8 × Rd :=
  if s.2 = false ∧ n ≤ s.1.length then (s.1.take n, (s.1.drop n, false)) else (List.replicate n 0, (s.1, true))
/-- the page's reader. -/
def takeR (s : Rd) (n : Nat) : List UInt8 × Rd :=
  if n ≤ s.1.length then (s.1.take n, (s.1.drop n, s.2)) else (List.replicate n 0, ([], true))
abbrev mkS (xs : List UInt8) : ByteArray := ⟨xs.toArray⟩
def oneP (s : Rd) : UInt8 × Rd := ((takeP s 1).1.headD 0, (takeP s 1).2)
def twoP (s : Rd) : Nat × Rd := ((oneP s).1.toNat * 256 + (oneP (oneP s).2).1.toNat, (oneP (oneP s).2).2)
def textP (s : Rd) : ByteArray × Rd := (mkS (takeP (twoP s).2 (twoP s).1).1, (takeP (twoP s).2 (twoP s).1).2)
def oneR (s : Rd) : UInt8 × Rd := ((takeR s 1).1.headD 0, (takeR s 1).2)
def numR (s : Rd) : Nat × Rd := (ofB (takeR s 2).1, (takeR s 2).2)
def textR (s : Rd) : ByteArray × Rd := (mkS (takeR (numR s).2 (numR s).1).1, (takeR (numR s).2 (numR s).1).2)
def bitB (f : UInt8) (n : UInt8) : Bool := f &&& n != 0

/-- what a packet that wants to be connected has, by whatever reader. -/
structure Conn where
  f : UInt8
  k : Nat × Rd
  c : ByteArray × Rd
  t : ByteArray × Rd
  y : ByteArray × Rd
  u : ByteArray × Rd
  q : ByteArray × Rd
  s : Rd
def connOf (one : Rd → UInt8 × Rd) (two : Rd → Nat × Rd) (text : Rd → ByteArray × Rd) (s : Rd) : Conn :=
  let f := one s
  let k := two f.2
  let c := text k.2
  let t := text c.2
  let y := text t.2
  let s5 := if bitB f.1 4 then y.2 else c.2
  let u := text s5
  let s6 := if bitB f.1 128 then u.2 else s5
  let q := text s6
  let s7 := if bitB f.1 64 then q.2 else s6
  ⟨f.1, k, c, t, y, u, q, s7⟩
def Conn.mq (r : Conn) : Mq :=
  { mq0 1 with
    keep := r.k.1, client := r.c.1, clean := bitB r.f 2, hp := bitB r.f 64, hu := bitB r.f 128, won := bitB r.f 4,
    wt := (if bitB r.f 4 then r.t.1 else nos), wp := (if bitB r.f 4 then r.y.1 else nos), wq := (if bitB r.f 4 then ((r.f >>> 3 &&& 3).toNat : Int) else 0), wr := (bitB r.f 4 && bitB r.f 32),
    user := (if bitB r.f 128 then r.u.1 else nos), pass := (if bitB r.f 64 then r.q.1 else nos) }
def connP (s : Rd) : Conn := connOf oneP twoP textP (takeP s 7).2
def connR (s : Rd) : Conn := connOf oneR numR textR (takeR s 7).2

def pubMq (f : UInt8) (t : ByteArray) (i : Nat) (p : ByteArray) : Mq :=
  { mq0 3 with dup := bitB f 8, qos := ((f >>> 1 &&& 3).toNat : Int), retain := bitB f 1, topic := t, id := (if f >>> 1 &&& 3 != 0 then (i : Int) else 0), payload := p }
def pubP (f : UInt8) (s : Rd) : Mq × Rd :=
  let t := textP s
  let i := twoP t.2
  let s2 := if f >>> 1 &&& 3 != 0 then i.2 else t.2
  let p := takeP s2 s2.1.length
  (pubMq f t.1 i.1 (mkS p.1), p.2)
def pubR (f : UInt8) (s : Rd) : Mq × Rd :=
  let t := textR s
  let i := numR t.2
  let s2 := if f >>> 1 &&& 3 != 0 then i.2 else t.2
  (pubMq f t.1 i.1 (mkS s2.1), s2)

def loopP (k : Int) : Nat → Mq → Rd → Mq × Rd
  | 0, m, s => (m, s)
  | f + 1, m, s =>
    if s.2 = false ∧ 0 < s.1.length then
      if k = 8 then loopP k f { m with wishes := m.wishes ++ [((textP s).1, ((oneP (textP s).2).1.toNat : Int))] } (oneP (textP s).2).2
      else if k = 9 then loopP k f { m with codes := m.codes ++ [((oneP s).1.toNat : Int)] } (oneP s).2
      else loopP k f { m with filters := m.filters ++ [(textP s).1] } (textP s).2
    else (m, s)
def loopR (k : Int) : Nat → Mq → Rd → Mq × Rd
  | 0, m, s => (m, s)
  | f + 1, m, s =>
    if 0 < s.1.length then
      if k = 8 then loopR k f { m with wishes := m.wishes ++ [((textR s).1, ((oneR (textR s).2).1.toNat : Int))] } (oneR (textR s).2).2
      else if k = 9 then loopR k f { m with codes := m.codes ++ [((oneR s).1.toNat : Int)] } (oneR s).2
      else if k = 10 then loopR k f { m with filters := m.filters ++ [(textR s).1] } (textR s).2
      else loopR k f m s
    else (m, s)
def listKind (k : Int) : Bool := k == 8 || (k == 9 || k == 10)
/-- package pack: the packet of a kind, flags. -/
def readP (k : Int) (f : UInt8) (s : Rd) : Mq × Rd :=
  if k = 1 then ((connP s).mq, (connP s).s)
  else if k = 2 then ({ mq0 k with present := (oneP s).1 == 1, code := ((oneP (oneP s).2).1.toNat : Int) }, (oneP (oneP s).2).2)
  else if k = 3 then pubP f s
  else if listKind k then loopP k ((twoP s).2.1.length + 1) { mq0 k with id := ((twoP s).1 : Int) } (twoP s).2
  else if idKind k then ({ mq0 k with id := ((twoP s).1 : Int) }, (twoP s).2)
  else (mq0 k, s)
/-- the page: the packet of a kind, flags. -/
def readR (k : Int) (f : UInt8) (s : Rd) : Mq × Rd :=
  if k = 1 then ((connR s).mq, (connR s).s)
  else if k = 2 then ({ mq0 k with present := (takeR s 2).1.getD 0 0 == 1, code := (((takeR s 2).1.getD 1 0).toNat : Int) }, (takeR s 2).2)
  else if k = 3 then pubR f s
  else if bareKind k then (mq0 k, s)
  else loopR k 8 { mq0 k with id := ((numR s).1 : Int) } (numR s).2

/-! what is laid is read -/
theorem takeP_app (a b : List UInt8) (n : Nat) (h : a.length = n) : takeP (a ++ b, false) n = (a, (b, false)) := by
  subst h; unfold takeP; rw [if_pos ⟨rfl, by simp⟩]; simp
theorem takeR_app (a b : List UInt8) (n : Nat) (h : a.length = n) : takeR (a ++ b, false) n = (a, (b, false)) := by
  subst h; unfold takeR; rw [if_pos (by simp)]; simp
theorem oneP_cons (x : UInt8) (b : List UInt8) : oneP (x :: b, false) = (x, (b, false)) := by
  unfold oneP; rw [show x :: b = [x] ++ b from rfl, takeP_app [x] b 1 rfl]; rfl
theorem oneR_cons (x : UInt8) (b : List UInt8) : oneR (x :: b, false) = (x, (b, false)) := by
  unfold oneR; rw [show x :: b = [x] ++ b from rfl, takeR_app [x] b 1 rfl]; rfl
theorem big2 (n : Nat) : big 2 n = [UInt8.ofNat (n / 256), UInt8.ofNat n] := by simp [big]
theorem twoP_big (n : Nat) (h : n < 65536) (b : List UInt8) : twoP (big 2 n ++ b, false) = (n, (b, false)) := by
  unfold twoP
  rw [big2]
  simp only [List.cons_append, List.nil_append, oneP_cons, UInt8.toNat_ofNat']
  congr 1
  omega
theorem numR_big (n : Nat) (h : n < 65536) (b : List UInt8) : numR (big 2 n ++ b, false) = (n, (b, false)) := by
  unfold numR
  rw [takeR_app _ _ 2 (big_length 2 n), big2]
  simp only [ofB, List.foldl, UInt8.toNat_ofNat']
  congr 1
  omega
theorem mkS_sb (s : ByteArray) : mkS (sb s) = s := by
  cases s; simp [mkS, sb]
theorem textP_str (s : ByteArray) (h : s.size < 65536) (b : List UInt8) : textP (strB s ++ b, false) = (s, (b, false)) := by
  unfold textP strB
  rw [List.append_assoc, twoP_big _ h]
  simp only []
  rw [takeP_app _ _ s.size (sb_length s)]
theorem textR_str (s : ByteArray) (h : s.size < 65536) (b : List UInt8) : textR (strB s ++ b, false) = (s, (b, false)) := by
  unfold textR strB
  rw [List.append_assoc, numR_big _ h]
  simp only []
  rw [takeR_app _ _ s.size (sb_length s)]

end Go.Proofs.YtkcdkjpmbjcmdaaDoor

/-
  The readers of chapter 18: a struct of two cells behind a pointer; 'take' of both.
-/
namespace Go.Proofs.YtkcdkjpmbjcmdaaDoor
open Go.RowKit

/-- a reader's two cells: what is left, whether something was wrong. -/
def RdAt (w : World) (B g : Nat) (s : Rd) : Prop :=
  ∃ A c, s.1.length ≤ c ∧ w.cell? ⟨g, 0, none⟩ = some (.slice A s.1.length c) ∧ w.cell? ⟨g, 1, none⟩ = some (.bool s.2) ∧
    w.frozen? ⟨g, 0, none⟩ = false ∧ w.frozen? ⟨g, 1, none⟩ = false ∧ RB w B A s.1 ∧ B ≤ g ∧ g < w.heap.size
theorem RdAt.of {w : World} {B g : Nat} {A : Option Addr} {xs : List UInt8} {bad : Bool} {n c : Nat} (hl : xs.length = n) (hc : n ≤ c) (c0 : w.cell? ⟨g, 0, none⟩ = some (.slice A n c)) (c1 : w.cell? ⟨g, 1, none⟩ = some (.bool bad))
    (f0 : w.frozen? ⟨g, 0, none⟩ = false) (f1 : w.frozen? ⟨g, 1, none⟩ = false) (hr : RB w B A xs) (hB : B ≤ g) (hg : g < w.heap.size) : RdAt w B g (xs, bad) := by
  subst hl; exact ⟨A, c, hc, c0, c1, f0, f1, hr, hB, hg⟩
/-- what was not written is as it was. -/
theorem RdAt.kept {w w' : World} {B g : Nat} {s : Rd} {row : Option Nat} (h : RdAt w B g s) (hg : w.grownBy w' row) (hB : ∀ k, row = some k → B ≤ k) (hne : some g ≠ row) : RdAt w' B g s := by
  obtain ⟨A, c, hc, c0, c1, f0, f1, hr, hBg, hlt⟩ := h
  have hk : ∀ p : Addr, p.block < w.heap.size → some p.block ≠ row → w'.cell? p = w.cell? p := fun p hp hn => World.cell?_of_block (hg.block _ hp hn)
  have hf : ∀ p : Addr, p.block < w.heap.size → some p.block ≠ row → w'.frozen? p = w.frozen? p := fun p hp hn => World.frozen?_of_block (hg.block _ hp hn)
  refine ⟨A, c, hc, (hk ⟨g, 0, none⟩ hlt hne).trans c0, (hk ⟨g, 1, none⟩ hlt hne).trans c1, (hf ⟨g, 0, none⟩ hlt hne).trans f0, (hf ⟨g, 1, none⟩ hlt hne).trans f1, ?_, hBg, Nat.lt_of_lt_of_le hlt hg.size⟩
  refine hr.keep fun p hp => hk p (by omega) (fun e => ?_)
  have := hB _ e.symm
  omega
theorem zeros_bv (n : Nat) : (madeCells (Value.cells (.int .u8 0)) (n * 1)).toList = (List.replicate n (0 : UInt8)).map bv := by
  rw [Nat.mul_one]
  apply List.ext_getElem?
  intro j
  rcases Nat.lt_or_ge j n with h | h
  · simp [madeCells, Value.cells, h, Nat.mod_one]
  · simp [madeCells, Value.cells, h]
theorem RB.grown {w w' : World} {B : Nat} {A : Option Addr} {xs : List UInt8} {row : Option Nat} (h : RB w B A xs) (hg : w.grownBy w' row) (hB : ∀ k, row = some k → B ≤ k) (hs : B ≤ w.heap.size) : RB w' B A xs :=
  h.keep fun p hp => World.cell?_of_block (hg.block _ (by omega) (fun e => by have := hB _ e.symm; omega))
theorem size_setCell' (w : World) (a : Addr) (v : Value) : (w.setCell a v).heap.size = w.heap.size := by simp [World.setCell]
theorem grown_row {w w' : World} (h : w.grownBy w' none) (row : Option Nat) : w.grownBy w' row := ⟨h.os, h.tape, h.output, h.size, fun k hk _ => h.block k hk (by simp)⟩
theorem grown_below {w w' : World} {g : Nat} (h : w.grownBy w' (some g)) {B : Nat} (hB : B ≤ g) (hs : B ≤ w.heap.size) : Below B w w' := (Below.refl B w).grown h hs (fun k e => by injection e with e; omega)
theorem below_grown {w w' : World} (h : Below w.heap.size w w') (row : Option Nat) : w.grownBy w' row := ⟨h.os, h.tape, h.output, h.size, fun k hk _ => h.block k hk⟩

/-- make([]byte, n). -/
theorem wpList_make_bytes {P : Program} {w : World} {ops : Array Oper} {rest : List Oper} {o : Oper} {a : Act} {Q : Exit → Act → World → Prop}
    (hg : o.guard = none) (l c : Operand) (t e : TypeId) (hop : o.op = Op.makeSlice t l c) (ht : P.underlying t = some (.slice e)) (hi : (P.info? e).map (fun i => (i.zero, i.size, i.bytes)) = some (some (.int .u8 0), 1, 1))
    (n : Nat) (hl : a.eval l = .int .i64 (n : Int)) (hc : a.eval c = .int .i64 (n : Int)) (hn : n ≤ 1000000)
    (hK : ∀ w', RB w' w'.heap.size (some ⟨w.heap.size, 0, none⟩) (List.replicate n 0) → w.grownBy w' none → wpList P ops Q rest (a.put o.dst (.slice (some ⟨w.heap.size, 0, none⟩) n n)) w') :
    wpList P ops Q (o :: rest) a w := by
  obtain ⟨i0, hi0, hz0, hz1, hz2⟩ := info_parts hi
  refine wpList_make_full w hg l c t hop w.heap.size e i0 (.int .u8 0) 1 ht hi0 hz0 hz1 .i64 .i64 (n : Int) (n : Int) n hl hc rfl rfl (by rw [hz2]; omega) (by unfold maxLen; omega) (Nat.le_refl _) ?_
  intro w' ho hgr
  rw [zeros_bv] at ho
  exact hK w' (RB.of_ownN ho) hgr

theorem takeP_bad (s : Rd) (n : Nat) (h : ¬ (s.2 = false ∧ n ≤ s.1.length)) : takeP s n = (List.replicate n 0, (s.1, true)) := by unfold takeP; rw [if_neg h]
theorem takeP_ok (s : Rd) (n : Nat) (h : s.2 = false ∧ n ≤ s.1.length) : takeP s n = (s.1.take n, (s.1.drop n, false)) := by unfold takeP; rw [if_pos h]

/-- what 'take' leaves: the bytes, the reader. -/
def Took (w : World) (B g n : Nat) (r : List UInt8 × Rd) (e : Ending) (w' : World) : Prop :=
  ∃ A' c', e = .returned (.slice A' n c') ∧ n ≤ c' ∧ r.1.length = n ∧ RB w' w'.heap.size A' r.1 ∧ RdAt w' B g r.2 ∧ w.grownBy w' (some g)
theorem took_bad {w w1 w' : World} {B g n c H : Nat} (_hH : w1.heap.size = H) {A : Option Addr} {xs : List UInt8} (hc : xs.length ≤ c) (c0 : w1.cell? ⟨g, 0, none⟩ = some (.slice A xs.length c)) (c1 : w1.cell? ⟨g, 1, none⟩ = some (.bool true))
    (f0 : w1.frozen? ⟨g, 0, none⟩ = false) (f1 : w1.frozen? ⟨g, 1, none⟩ = false) (hr : RB w1 B A xs) (hB : B ≤ g) (hg : g < w1.heap.size) (h1 : w.grownBy w1 (some g))
    (hr2 : RB w' w'.heap.size (some ⟨H, 0, none⟩) (List.replicate n 0)) (h2 : w1.grownBy w' none) :
    Took w B g n (List.replicate n 0, (xs, true)) (.returned (.slice (some ⟨H, 0, none⟩) n n)) w' := by
  refine ⟨_, _, rfl, Nat.le_refl _, by simp, hr2, ?_, h1.trans (grown_row h2 _)⟩
  have : RdAt w1 B g (xs, true) := RdAt.of rfl hc c0 c1 f0 f1 hr hB hg
  exact this.kept h2 (by simp) (by simp)

theorem took_ok {w : World} {B g n c : Nat} {A : Option Addr} {xs : List UInt8} (hc : xs.length ≤ c) (hle : n ≤ xs.length) (c0 : w.cell? ⟨g, 0, none⟩ = some (.slice A xs.length c)) (c1 : w.cell? ⟨g, 1, none⟩ = some (.bool false))
    (f0 : w.frozen? ⟨g, 0, none⟩ = false) (f1 : w.frozen? ⟨g, 1, none⟩ = false) (hr : RB w B A xs) (hB : B ≤ g) (hg : g < w.heap.size) :
    Took w B g n (xs.take n, (xs.drop n, false)) (.returned (.slice A n c)) ((w.setCell ⟨g, 0, none⟩ (.slice (if c = n then A else A.map (·.add n)) (xs.length - n) (c - n))).drew) := by
  have hO := (Only.refl g w).set 0 (.slice (if c = n then A else A.map (·.add n)) (xs.length - n) (c - n))
  refine ⟨_, _, rfl, by omega, by simp; omega, ?_, ?_, ?_⟩
  · exact ((hr.take n).only hO hB).more (by show B ≤ (w.setCell _ _).heap.size; rw [size_setCell']; omega)
  · refine RdAt.of (w := (w.setCell ⟨g, 0, none⟩ _).drew) (A := (if c = n then A else A.map (·.add n))) (n := xs.length - n) (c := c - n) (by simp) (by omega) ?_ ?_ ?_ ?_ ?_ hB ?_
    · exact World.cell?_setCell_same _ _ _ c0
    · show (w.setCell _ _).cell? _ = _
      rw [World.cell?_setCell_other _ _ _ _ (by simp)]; exact c1
    · show (w.setCell _ _).frozen? _ = _
      simpa using f0
    · show (w.setCell _ _).frozen? _ = _
      simpa using f1
    · exact (hr.cut hle hc).only hO.drew hB
    · show g < (w.setCell _ _).heap.size
      rw [size_setCell']; exact hg
  · have := grown_setCell w g 0 (.slice (if c = n then A else A.map (·.add n)) (xs.length - n) (c - n))
    exact ⟨this.os, this.tape, this.output, this.size, this.block⟩

set_option maxRecDepth 100000 in
set_option maxHeartbeats 800000 in
theorem packTake (B g : Nat) (s : Rd) (n : Nat) (nI : Int) (hn : nI = (n : Int)) (hn' : n ≤ 1000000) (w : World) (h : RdAt w B g s) :
    Calls Tryd.prog 82 #[.pointer (some ⟨g, 0, none⟩), .int .i64 nI] w (Took w B g n (takeP s n)) := by
  subst hn
  obtain ⟨xs, bad⟩ := s
  obtain ⟨A, c, hc, c0, c1, f0, f1, hr, hB, hg⟩ := h
  dsimp only at hc c0 c1 hr
  by_cases hok : bad = false ∧ n ≤ xs.length
  · rw [takeP_ok _ _ hok]
    obtain ⟨rfl, hle⟩ := hok
    have hnI : (n : Int) ≤ (xs.length : Int) := by omega
    have hnc : (n : Int) ≤ (c : Int) := by omega
    have hnI' : n ≤ c := by omega
    have hn0 : (0 : Int) ≤ (n : Int) := by omega
    have HT := Lib.hid (took_ok hc hle c0 c1 f0 f1 hr hB hg)
    clear hr
    by_cases hcn : c = n
    · subst hcn
      rw [if_pos rfl, show xs.length - c = 0 by omega, Nat.sub_self] at HT
      go_enter Tryd.func82, Tryd.ntmps82
      go_wp2
      refine wp_scope_fwd 0 rfl ?_
      go_wp2
      go_region
      all_goals
        go_wp2
        simp only [Exit.jump]
        go_ret
        exact HT.out
    · rw [if_neg hcn] at HT
      go_enter Tryd.func82, Tryd.ntmps82
      go_wp2
      refine wp_scope_fwd 0 rfl ?_
      go_wp2
      go_region
      all_goals
        go_wp2
        simp only [Exit.jump]
        go_ret
        exact HT.out
  · rw [takeP_bad _ _ hok]
    have c1' : (w.setCell ⟨g, 1, none⟩ (.bool true)).cell? ⟨g, 1, none⟩ = some (.bool true) := World.cell?_setCell_same _ _ _ c1
    have HT : ∀ w', RB w' w'.heap.size (some ⟨w.heap.size, 0, none⟩) (List.replicate n 0) → (w.setCell ⟨g, 1, none⟩ (.bool true)).grownBy w' none → Took w B g n (List.replicate n 0, (xs, true)) (.returned (.slice (some ⟨w.heap.size, 0, none⟩) n n)) w' := by
      intro w' h1 h2
      refine took_bad (A := A) (by simp [World.setCell]) hc ?_ c1' ?_ ?_ ?_ hB ?_ (grown_setCell w g 1 _) h1 h2
      · rw [World.cell?_setCell_other _ _ _ _ (by simp)]; exact c0
      · simpa using f0
      · simpa using f1
      · exact hr.only ((Only.refl g w).set 1 _) hB
      · simpa [World.setCell] using hg
    have HT' := Lib.hid HT
    clear HT c1' hr
    have hh : bad = true ∨ (bad = false ∧ (xs.length : Int) < (n : Int)) := by
      cases bad
      · exact Or.inr ⟨rfl, by have : ¬ n ≤ xs.length := fun h => hok ⟨rfl, h⟩
                              omega⟩
      · exact Or.inl rfl
    clear hok
    rcases hh with rfl | ⟨rfl, hlt⟩
    all_goals
      go_enter Tryd.func82, Tryd.ntmps82
      go_wp2
      refine wp_scope_fwd 0 rfl ?_
      go_wp2
      go_step3
      refine ⟨rfl, ?_⟩
      go_wp2_with (apply wpList_make_bytes rfl _ _ 31 5 rfl Tryd.underlying31 info_u8 n ?_ ?_ hn' ?_; exact rfl; exact rfl; intro w2 hr2 hg2)
      simp only [Exit.jump]
      go_ret
      rw [size_setCell'] at hr2
      exact HT'.out w2 hr2 hg2

end Go.Proofs.YtkcdkjpmbjcmdaaDoor

/-
  Package pack's reader: one, two, text, more.
-/
namespace Go.Proofs.YtkcdkjpmbjcmdaaDoor
open Go.RowKit

/-- what reading leaves: the answer, the reader. -/
def Rdd (w : World) (B g : Nat) (v : Value) (s : Rd) (e : Ending) (w' : World) : Prop := e = .returned v ∧ RdAt w' B g s ∧ w.grownBy w' (some g)

theorem headD_of {xs : List UInt8} {x : UInt8} (h : xs[0]? = some x) : xs.headD 0 = x := by
  cases xs with
  | nil => cases h
  | cons y ys => simpa using h

set_option maxHeartbeats 800000 in
theorem packOne (B g : Nat) (s : Rd) (w : World) (h : RdAt w B g s) :
    Calls Tryd.prog 79 #[.pointer (some ⟨g, 0, none⟩)] w (Rdd w B g (.int .i64 ((oneP s).1.toNat : Int)) (oneP s).2) := by
  have K := Lib.hid (packTake B g s 1 1 rfl (by omega) w h)
  clear h
  unfold oneP
  generalize takeP s 1 = r at *
  obtain ⟨V, hV⟩ : ∃ V, r.1.headD 0 = V := ⟨_, rfl⟩
  rw [hV]
  have HV := Lib.hid hV
  clear hV
  go_enter Tryd.func79, Tryd.ntmps79
  go_wp2_with fail
  (with_reducible refine K.out.mono ?_)
  rintro _ w1 ⟨A, c, rfl, hc, hl, hr, hR, hg⟩
  obtain ⟨b, o, x, rfl, _, hx, cx⟩ := hr.get (k := 0) (by omega)
  rw [Nat.add_zero] at cx
  obtain rfl : x = V := (headD_of hx).symm.trans HV.out
  have hub : (x.toNat : Int) < 256 := by have := x.toNat_lt; omega
  have HR := Lib.hid hR
  clear hl hr hx hR K HV
  go_wp2
  go_ret
  exact ⟨rfl, HR.out, hg⟩

set_option maxHeartbeats 800000 in
theorem packTwoR (B g : Nat) (s : Rd) (w : World) (h : RdAt w B g s) :
    Calls Tryd.prog 81 #[.pointer (some ⟨g, 0, none⟩)] w (Rdd w B g (.int .i64 ((twoP s).1 : Int)) (twoP s).2) := by
  have K := Lib.hid (packOne B g s w h)
  clear h
  have HO := Lib.hid (or_shl (oneP s).1.toNat (oneP (oneP s).2).1 (by have := (oneP s).1.toNat_lt; omega))
  have K2 := Lib.hid (fun w1 h1 => packOne B g (oneP s).2 w1 h1)
  have e2 : twoP s = ((oneP s).1.toNat * 256 + (oneP (oneP s).2).1.toNat, (oneP (oneP s).2).2) := rfl
  rw [e2]
  clear e2
  have h1 := (oneP s).1.toNat_lt
  have h2 := (oneP (oneP s).2).1.toNat_lt
  generalize (oneP s).2 = s1 at *
  generalize (oneP s).1.toNat = x1 at *
  generalize hx2 : (oneP s1).1 = x2 at *
  generalize (oneP s1).2 = s2 at *
  clear hx2
  have i1 : (x1 : Int) ≤ 255 := by omega
  go_enter Tryd.func81, Tryd.ntmps81
  go_wp2_with fail
  (with_reducible refine K.out.mono ?_)
  rintro _ w1 ⟨rfl, hR, hg⟩
  go_wp2_with fail
  (with_reducible refine (K2.out w1 hR).mono ?_)
  rintro _ w2 ⟨rfl, hR2, hg2⟩
  clear K K2 hR
  go_wp2
  go_ret
  exact ⟨by rw [HO.out]; rfl, hR2, hg.trans hg2⟩

theorem RB.bytes_of {w : World} {B : Nat} {ad : Addr} {xs : List UInt8} (h : RB w B (some ad) xs) : ∀ j (hj : j < xs.length), w.cell? (ad.add j) = some (.int .u8 (xs[j].toNat : Int)) := by
  intro j hj
  obtain ⟨ad', x, e, _, hx, hc⟩ := h.at_ hj
  injection e with e
  subst e
  rw [hc, List.getElem?_eq_getElem hj] at *
  injection hx with hx
  rw [hx]
/-- string(b) of what is read. -/
theorem run_string_of {P : Program} {w : World} {src dst e : TypeId} (hs : P.underlying src = some (.slice e)) (he : P.underlying e = some (.int .u8)) (hd : P.underlying dst = some .string) {B : Nat} {A : Option Addr} {xs : List UInt8} (h : RB w B A xs) {n : Nat} (hn : xs.length = n) (c : Nat) :
    (convert src dst (.slice A n c)).run P w = .ok (.string (mkS xs)) w := by
  subst hn
  cases A with
  | none =>
    have h0 : xs = [] := by
      rcases Nat.eq_zero_or_pos xs.length with h0 | h0
      · exact List.eq_nil_of_length_eq_zero h0
      · obtain ⟨_, e, _⟩ := h.2 h0; cases e
    subst h0
    exact Lib.run_convert_nil_bytes w src dst e c hs he hd
  | some ad => exact run_convert_bytes_back w src dst e ad c xs hs he hd h.bytes_of

theorem twoP_lt (s : Rd) : (twoP s).1 < 65536 := by
  have h1 := (oneP s).1.toNat_lt
  have h2 := (oneP (oneP s).2).1.toNat_lt
  show (oneP s).1.toNat * 256 + (oneP (oneP s).2).1.toNat < 65536
  omega

set_option maxHeartbeats 800000 in
theorem packTextR (B g : Nat) (s : Rd) (w : World) (h : RdAt w B g s) :
    Calls Tryd.prog 80 #[.pointer (some ⟨g, 0, none⟩)] w (Rdd w B g (.string (textP s).1) (textP s).2) := by
  have K := Lib.hid (packTwoR B g s w h)
  clear h
  have K2 := Lib.hid (fun w1 h1 => packTake B g (twoP s).2 (twoP s).1 ((twoP s).1 : Int) rfl (by have := twoP_lt s; omega) w1 h1)
  unfold textP
  generalize twoP s = t at *
  obtain ⟨n, s1⟩ := t
  generalize takeP s1 n = r at *
  obtain ⟨ys, s2⟩ := r
  go_enter Tryd.func80, Tryd.ntmps80
  go_wp2_with fail
  (with_reducible refine K.out.mono ?_)
  rintro _ w1 ⟨rfl, hR, hg⟩
  go_wp2_with fail
  (with_reducible refine (K2.out w1 hR).mono ?_)
  rintro _ w2 ⟨A, c, rfl, hc, hl, hr, hR2, hg2⟩
  have hrun := run_string_of (P := Tryd.prog) (src := 31) (dst := 9) (e := 5) Tryd.underlying31 Tryd.underlying5 Tryd.underlying9 hr hl c
  clear K K2 hR hr hl
  go_wp2
  go_ret
  exact ⟨rfl, hR2, hg.trans hg2⟩

set_option maxHeartbeats 800000 in
theorem packMore (B g : Nat) (s : Rd) (w : World) (h : RdAt w B g s) :
    Calls Tryd.prog 102 #[.pointer (some ⟨g, 0, none⟩)] w fun e w' => e = .returned (.bool (!s.2 && decide (0 < s.1.length))) ∧ w = w' := by
  obtain ⟨xs, bad⟩ := s
  obtain ⟨A, c, hc, c0, c1, f0, f1, hr, hB, hg⟩ := h
  dsimp only at hc c0 c1 hr
  clear hr f0 f1
  cases bad with
  | true =>
    go_enter Tryd.func102, Tryd.ntmps102
    go_wp2
    go_ret
    exact ⟨rfl, rfl⟩
  | false =>
    by_cases h0 : 0 < xs.length
    · have e1 : (0 : Int) < (xs.length : Int) := by omega
      have HD := Lib.hid (decide_eq_true h0)
      clear h0
      go_enter Tryd.func102, Tryd.ntmps102
      go_wp2
      go_ret
      exact ⟨by rw [HD.out]; rfl, rfl⟩
    · have e1 : ¬ (0 : Int) < (xs.length : Int) := by omega
      have HD := Lib.hid (decide_eq_false h0)
      clear h0
      go_enter Tryd.func102, Tryd.ntmps102
      go_wp2
      go_ret
      exact ⟨by rw [HD.out]; rfl, rfl⟩

end Go.Proofs.YtkcdkjpmbjcmdaaDoor

/-
  The page's reader: take, num, text.
-/
namespace Go.Proofs.YtkcdkjpmbjcmdaaDoor
open Go.RowKit

theorem takeR_bad (s : Rd) (n : Nat) (h : ¬ n ≤ s.1.length) : takeR s n = (List.replicate n 0, ([], true)) := by unfold takeR; rw [if_neg h]
theorem takeR_ok (s : Rd) (n : Nat) (h : n ≤ s.1.length) : takeR s n = (s.1.take n, (s.1.drop n, s.2)) := by unfold takeR; rw [if_pos h]
theorem tookR_bad {w w' : World} {B g n : Nat} {v0 v1 : Value} (c0 : w.cell? ⟨g, 0, none⟩ = some v0) (c1 : w.cell? ⟨g, 1, none⟩ = some v1)
    (f0 : w.frozen? ⟨g, 0, none⟩ = false) (f1 : w.frozen? ⟨g, 1, none⟩ = false) (hB : B ≤ g) (hg : g < w.heap.size)
    (hr2 : RB w' w'.heap.size (some ⟨w.heap.size, 0, none⟩) (List.replicate n 0)) (h2 : ((w.setCell ⟨g, 1, none⟩ (.bool true)).setCell ⟨g, 0, none⟩ (.slice none 0 0)).grownBy w' none) :
    Took w B g n (List.replicate n 0, ([], true)) (.returned (.slice (some ⟨w.heap.size, 0, none⟩) n n)) w' := by
  refine ⟨_, _, rfl, Nat.le_refl _, by simp, hr2, ?_, ((grown_setCell w g 1 _).trans (grown_setCell _ g 0 _)).trans (grown_row h2 _)⟩
  have : RdAt ((w.setCell ⟨g, 1, none⟩ (.bool true)).setCell ⟨g, 0, none⟩ (.slice none 0 0)) B g ([], true) := by
    refine RdAt.of (A := none) (n := 0) (c := 0) rfl (Nat.le_refl _) ?_ ?_ ?_ ?_ RB.nil hB ?_
    · exact World.cell?_setCell_same _ _ _ ((World.cell?_setCell_other _ _ _ _ (by simp)).trans c0)
    · rw [World.cell?_setCell_other _ _ _ _ (by simp)]
      exact World.cell?_setCell_same _ _ _ c1
    · simpa using f0
    · simpa using f1
    · rw [size_setCell', size_setCell']; exact hg
  exact this.kept h2 (by simp) (by simp)
theorem tookR_ok {w : World} {B g n c : Nat} {A : Option Addr} {xs : List UInt8} {bad : Bool} (hc : xs.length ≤ c) (hle : n ≤ xs.length) (c0 : w.cell? ⟨g, 0, none⟩ = some (.slice A xs.length c)) (c1 : w.cell? ⟨g, 1, none⟩ = some (.bool bad))
    (f0 : w.frozen? ⟨g, 0, none⟩ = false) (f1 : w.frozen? ⟨g, 1, none⟩ = false) (hr : RB w B A xs) (hB : B ≤ g) (hg : g < w.heap.size) :
    Took w B g n (xs.take n, (xs.drop n, bad)) (.returned (.slice A n c)) (w.setCell ⟨g, 0, none⟩ (.slice (if c = n then A else A.map (·.add n)) (xs.length - n) (c - n))) := by
  have hO := (Only.refl g w).set 0 (.slice (if c = n then A else A.map (·.add n)) (xs.length - n) (c - n))
  refine ⟨_, _, rfl, by omega, by simp; omega, ?_, ?_, ?_⟩
  · exact ((hr.take n).only hO hB).more (by rw [size_setCell']; omega)
  · refine RdAt.of (A := (if c = n then A else A.map (·.add n))) (n := xs.length - n) (c := c - n) (by simp) (by omega) ?_ ?_ ?_ ?_ ?_ hB ?_
    · exact World.cell?_setCell_same _ _ _ c0
    · rw [World.cell?_setCell_other _ _ _ _ (by simp)]; exact c1
    · simpa using f0
    · simpa using f1
    · exact (hr.cut hle hc).only hO hB
    · rw [size_setCell']; exact hg
  · exact grown_setCell w g 0 _

set_option maxRecDepth 100000 in
set_option maxHeartbeats 800000 in
theorem refTake (B g : Nat) (s : Rd) (n : Nat) (nI : Int) (hn : nI = (n : Int)) (hn' : n ≤ 1000000) (w : World) (h : RdAt w B g s) :
    Calls Tryd.prog 84 #[.pointer (some ⟨g, 0, none⟩), .int .i64 nI] w (Took w B g n (takeR s n)) := by
  subst hn
  obtain ⟨xs, bad⟩ := s
  obtain ⟨A, c, hc, c0, c1, f0, f1, hr, hB, hg⟩ := h
  dsimp only at hc c0 c1 hr
  by_cases hle : n ≤ xs.length
  · rw [takeR_ok _ _ hle]
    have hnI : (n : Int) ≤ (xs.length : Int) := by omega
    have hnc : (n : Int) ≤ (c : Int) := by omega
    have hnI' : n ≤ c := by omega
    have hn0 : (0 : Int) ≤ (n : Int) := by omega
    have HT := Lib.hid (tookR_ok hc hle c0 c1 f0 f1 hr hB hg)
    clear hr
    by_cases hcn : c = n
    · subst hcn
      rw [if_pos rfl, show xs.length - c = 0 by omega, Nat.sub_self] at HT
      go_enter Tryd.func84, Tryd.ntmps84
      go_wp2
      go_ret
      exact HT.out
    · rw [if_neg hcn] at HT
      go_enter Tryd.func84, Tryd.ntmps84
      go_wp2
      go_ret
      exact HT.out
  · rw [takeR_bad _ _ hle]
    have HT := Lib.hid (fun w' h1 h2 => tookR_bad (w' := w') (n := n) c0 c1 f0 f1 hB hg h1 h2)
    have hlt : (xs.length : Int) < (n : Int) := by omega
    clear hr hle
    go_enter Tryd.func84, Tryd.ntmps84
    go_wp2_with (apply wpList_make_bytes rfl _ _ 31 5 rfl Tryd.underlying31 info_u8 n ?_ ?_ hn' ?_; exact rfl; exact rfl; intro w2 hr2 hg2)
    go_ret
    simp only [size_setCell'] at hr2
    exact HT.out w2 hr2 hg2

theorem takeR_len (s : Rd) (n : Nat) : (takeR s n).1.length = n := by
  unfold takeR; split <;> simp; omega

set_option maxHeartbeats 800000 in
theorem refNumR (B g : Nat) (s : Rd) (w : World) (h : RdAt w B g s) :
    Calls Tryd.prog 85 #[.pointer (some ⟨g, 0, none⟩)] w (Rdd w B g (.int .i64 ((numR s).1 : Int)) (numR s).2) := by
  have K := Lib.hid (refTake B g s 2 2 rfl (by omega) w h)
  clear h
  unfold numR
  generalize takeR s 2 = r at *
  obtain ⟨ys, s1⟩ := r
  go_enter Tryd.func85, Tryd.ntmps85
  go_wp2_with fail
  (with_reducible refine K.out.mono ?_)
  rintro _ w1 ⟨A, c, rfl, hc, hl, hr, hR, hg⟩
  have KO := Lib.hid (ofW ys 2 hl A c w1 hr (by omega))
  clear hr hl K
  go_wp2_with fail
  (with_reducible refine KO.out.mono ?_)
  rintro _ w2 ⟨rfl, rfl⟩
  go_wp2
  go_ret
  exact ⟨rfl, hR, hg⟩

theorem numR_lt (s : Rd) : (numR s).1 < 65536 := by
  have h := ofB_lt (takeR s 2).1
  rw [takeR_len] at h
  exact h

set_option maxHeartbeats 800000 in
theorem refTextR (B g : Nat) (s : Rd) (w : World) (h : RdAt w B g s) :
    Calls Tryd.prog 86 #[.pointer (some ⟨g, 0, none⟩)] w (Rdd w B g (.string (textR s).1) (textR s).2) := by
  have K := Lib.hid (refNumR B g s w h)
  clear h
  have K2 := Lib.hid (fun w1 h1 => refTake B g (numR s).2 (numR s).1 ((numR s).1 : Int) rfl (by have := numR_lt s; omega) w1 h1)
  unfold textR
  generalize numR s = t at *
  obtain ⟨n, s1⟩ := t
  generalize takeR s1 n = r at *
  obtain ⟨ys, s2⟩ := r
  go_enter Tryd.func86, Tryd.ntmps86
  go_wp2_with fail
  (with_reducible refine K.out.mono ?_)
  rintro _ w1 ⟨rfl, hR, hg⟩
  go_wp2_with fail
  (with_reducible refine (K2.out w1 hR).mono ?_)
  rintro _ w2 ⟨A, c, rfl, hc, hl, hr, hR2, hg2⟩
  have hrun := run_string_of (P := Tryd.prog) (src := 31) (dst := 9) (e := 5) Tryd.underlying31 Tryd.underlying5 Tryd.underlying9 hr hl c
  clear K K2 hR hr hl
  go_wp2
  go_ret
  exact ⟨rfl, hR2, hg.trans hg2⟩

end Go.Proofs.YtkcdkjpmbjcmdaaDoor

/-
  A packet's 24 cells in memory; what is kept of them.
-/
namespace Go.Proofs.YtkcdkjpmbjcmdaaDoor
open Go.RowKit

/-- a packet's cells, its three lists given as values. -/
abbrev mqCells (m : Mq) (vc vw vf : Value) : List Value :=
  [.int .i64 m.kind, .string m.client, .bool m.clean, .int .i64 m.keep, .bool m.won, .string m.wt, .string m.wp, .int .i64 m.wq, .bool m.wr, .string m.user, .bool m.hu, .string m.pass,
   .bool m.hp, .bool m.present, .int .i64 m.code, vc, .bool m.dup, .int .i64 m.qos, .bool m.retain, .string m.topic, .int .i64 m.id, .string m.payload, vw, vf]
abbrev nilV : Value := .slice none 0 0

/-- a block's first cells, which may be written. -/
def Cells (w : World) (g : Nat) (l : List Value) : Prop := ∀ j v, l[j]? = some v → w.cell? ⟨g, j, none⟩ = some v ∧ w.frozen? ⟨g, j, none⟩ = false
section
variable {w w' : World} {g : Nat} {l : List Value}
theorem Cells.get (h : Cells w g l) (j : Nat) (v : Value) (hv : l[j]? = some v) : w.cell? ⟨g, j, none⟩ = some v := (h j v hv).1
theorem Cells.fr (h : Cells w g l) (j : Nat) (hv : (l[j]?).isSome = true) : w.frozen? ⟨g, j, none⟩ = false := by
  obtain ⟨v, hv⟩ := Option.isSome_iff_exists.1 hv
  exact (h j v hv).2
theorem Cells.box (w : World) (l : List Value) (T : TypeId) : Cells (w.alloc (.cells l.toArray T)) w.heap.size l := fun j v h =>
  ⟨by rw [World.cell?_alloc_at _ _ _ _ rfl]; simpa using h, World.frozen?_alloc_at _ _ _ j rfl⟩
theorem Cells.kept {row : Option Nat} (h : Cells w g l) (hg : w.grownBy w' row) (hlt : g < w.heap.size) (hne : some g ≠ row) : Cells w' g l := fun j v hv =>
  ⟨(World.cell?_of_block (a := ⟨g, j, none⟩) (hg.block g hlt hne)).trans (h j v hv).1, (World.frozen?_of_block (a := ⟨g, j, none⟩) (hg.block g hlt hne)).trans (h j v hv).2⟩
theorem Cells.below {B : Nat} (h : Cells w g l) (hb : Below B w w') (hg : g < B) : Cells w' g l := fun j v hv => ⟨(cellB hb hg).trans (h j v hv).1, (frozB hb hg).trans (h j v hv).2⟩
theorem Cells.set (h : Cells w g l) (j : Nat) (v : Value) (hj : j < l.length) : Cells (w.setCell ⟨g, j, none⟩ v) g (l.set j v) := by
  intro i u hu
  rw [List.getElem?_set] at hu
  by_cases hi : j = i
  · subst hi
    rw [if_pos rfl] at hu
    have hjl : j < l.length := hj
    simp only [hj, if_true, Option.some.injEq] at hu
    subst hu
    exact ⟨World.cell?_setCell_same _ _ _ (h j _ (List.getElem?_eq_getElem hjl)).1, by simpa using (h j _ (List.getElem?_eq_getElem hjl)).2⟩
  · rw [if_neg hi] at hu
    exact ⟨(World.cell?_setCell_other _ _ _ _ (by simp)).trans (h i u hu).1, by simpa using (h i u hu).2⟩
theorem Cells.other (h : Cells w g l) {a : Addr} (ha : a.block ≠ g) (v : Value) : Cells (w.setCell a v) g l := fun i u hu =>
  ⟨(World.cell?_setCell_other _ _ _ _ (by intro e; exact ha (by rw [e]))).trans (h i u hu).1, by simpa using (h i u hu).2⟩
theorem Cells.alloc (h : Cells w g l) (hlt : g < w.heap.size) (o : Obj) : Cells (w.alloc o) g l := h.kept (World.grownBy_alloc w o none) hlt (by simp)
end

theorem RdAt.store {w : World} {B g : Nat} {s : Rd} (h : RdAt w B g s) {a : Addr} (ha : B ≤ a.block) (hne : a.block ≠ g) (v : Value) : RdAt (w.setCell a v) B g s := by
  obtain ⟨A, c, hc, c0, c1, f0, f1, hr, hB, hg⟩ := h
  refine ⟨A, c, hc, ?_, ?_, ?_, ?_, ?_, hB, ?_⟩
  · rw [World.cell?_setCell_other _ _ _ _ (by intro e; exact hne (by rw [e]))]; exact c0
  · rw [World.cell?_setCell_other _ _ _ _ (by intro e; exact hne (by rw [e]))]; exact c1
  · simpa using f0
  · simpa using f1
  · exact hr.keep fun p hp => World.cell?_setCell_other _ _ _ _ (by intro e; rw [← e] at hp; omega)
  · rw [size_setCell']; exact hg
theorem grown_store {w0 w : World} {row : Option Nat} (h : w0.grownBy w row) {a : Addr} (ha : w0.heap.size ≤ a.block) (v : Value) : w0.grownBy (w.setCell a v) row :=
  ⟨h.os, h.tape, h.output, by rw [size_setCell']; exact h.size, fun k hk hne => (Below.heap_setCell w a v k (by omega)).trans (h.block k hk hne)⟩
theorem grown_alloc {w0 w : World} {row : Option Nat} (h : w0.grownBy w row) (o : Obj) : w0.grownBy (w.alloc o) row := h.trans (World.grownBy_alloc w o row)
theorem grown_drew {w0 w : World} {row : Option Nat} (h : w0.grownBy w row) : w0.grownBy w.drew row := ⟨h.os, h.tape, h.output, h.size, h.block⟩

/-! one bit of a byte -/
theorem bits_and_u8 (f : UInt8) (n : Nat) (hn : n < 256) : bits .and .i64 (f.toNat : Int) (n : Int) = ((f.toNat &&& n : Nat) : Int) := by
  have := f.toNat_lt
  exact i64_and_nat f.toNat n (by omega) (by omega)
theorem bitB_iff (f : UInt8) (n : Nat) (hn : n < 256) : bitB f (UInt8.ofNat n) = (bits .and .i64 (f.toNat : Int) (n : Int) != 0) := by
  rw [bits_and_u8 f n hn]
  unfold bitB
  have e : (f &&& UInt8.ofNat n).toNat = f.toNat &&& n := by
    rw [UInt8.toNat_and, UInt8.toNat_ofNat', Nat.mod_eq_of_lt (by omega)]
  by_cases h : f &&& UInt8.ofNat n = 0
  · have e2 : f.toNat &&& n = 0 := by rw [← e, h]; rfl
    rw [h, e2]; rfl
  · have e2 : ¬ f.toNat &&& n = 0 := by
      intro h2; rw [← e] at h2; exact h (UInt8.toNat_inj.1 (by rw [h2]; rfl))
    have a1 : (f &&& UInt8.ofNat n != 0) = true := by simpa using h
    have a2 : (((f.toNat &&& n : Nat) : Int) != 0) = true := by
      rw [bne_iff_ne]; omega
    rw [a1, a2]

end Go.Proofs.YtkcdkjpmbjcmdaaDoor

/-
  Rows of whatever cells; what reading leaves (words).
-/
namespace Go.Proofs.YtkcdkjpmbjcmdaaDoor
open Go.RowKit

/-- rows of different kinds do not lie in one block. -/
theorem own_apart {w : World} {b1 b2 : Nat} {e1 e2 : TypeId} {s1 s2 n1 n2 : Nat} {v1 v2 : Value} {x1 x2 : List Value} (h1 : w.ownsRow b1 e1 s1 v1 n1 x1) (h2 : w.ownsRow b2 e2 s2 v2 n2 x2) (he : Nat.beq e1 e2 = false) : v1.ownBlock = none ∨ v1.ownBlock ≠ v2.ownBlock := by
  rcases h1.2 with ⟨rfl, _⟩ | ⟨g1, c1, cur1, rfl, _, hg1, _⟩
  · exact .inl rfl
  · right
    rcases h2.2 with ⟨rfl, _⟩ | ⟨g2, c2, cur2, rfl, _, hg2, _⟩
    · intro h; cases h
    · intro h
      have h : g1 = g2 := by injection h
      subst h
      rw [hg1] at hg2
      injection hg2 with hg2
      injection hg2 with _ h2 _
      subst h2
      rw [Nat.beq_refl] at he
      cases he
/-- append(v, src...), whatever the cells, as one step of a region that draws. -/
theorem step_append_row {P : Program} {ops : Array Oper} {o : Oper} {a : Act} {w : World} {K : Act → World → Prop} {Q : Exit → Act → World → Prop} {E : Prop} (hgd : o.guard = none) (s x : Operand) (t : TypeId)
    (ho : o.op = .call { callee := .builtin .append, args := #[s, x], argTypes := #[t, t] })
    (base : Nat) (e : TypeId) (z : Value) (size bytes : Nat) (ht : P.underlying t = some (.slice e)) (hi : (P.info? e).map (fun i => (i.zero, i.size, i.bytes)) = some (some z, size, bytes)) (hzs : z.cells.size = size) (hsz : 0 < size)
    (v : Value) (n : Nat) (xs : List Value) (hs : a.eval s = v) (hown : w.ownsRow base e size v n xs) (A : Option Addr) (m c : Nat) (ys : List Value) (hx : a.eval x = .slice A m c) (hr : Reads w w.heap.size size A m ys) (h1 : ∀ u ∈ ys, u.oneCell' = true)
    (hn : n + m ≤ maxLen) (hb : (n + m) * bytes ≤ 140737488355328) (hbase : base ≤ w.heap.size)
    (h : ∀ A' c' w', w'.ownsRow base e size (.slice A' (n + m) c') (n + m) (xs ++ ys) → w.grownBy w' v.ownBlock → K (a.put o.dst (.slice A' (n + m) c')) w') :
    if Region.wanted o (yielded ops a.tmps) = true then Oper.wp P o a w K Q else E := by
  have hw : Region.wanted o (yielded ops a.tmps) = true := by simp [Region.wanted, hgd]
  rw [if_pos hw]
  obtain ⟨A', c', w', hrun, h2, h3⟩ := run_append_read (P := P) w base t o.type e z size bytes ht hi hzs hsz v n xs hown w.heap.size A m c ys hr h1 hn hb hbase
  unfold Oper.wp execOp
  simp only [ho, resolve, invoke, builtin, Sem.run_bind, Sem.run_pure, Result.andThen_ok, List.map_toArray, List.map_cons, List.map_nil, hs, hx, hrun]
  exact h _ _ _ h2 h3
/-- a block that was just laid, read whole. -/
theorem Reads.lit (w : World) (e : TypeId) (l : List Value) (fr : Nat × Nat) (size n : Nat) (hl : l.length = n * size) : Reads (w.alloc (.cells l.toArray e fr)) (w.alloc (.cells l.toArray e fr)).heap.size size (some ⟨w.heap.size, 0, none⟩) n l := by
  refine ⟨hl, fun _ => ⟨_, rfl, by simp, fun j u hu => ?_⟩⟩
  have h1 : (w.alloc (.cells l.toArray e fr)).heap[w.heap.size]? = some (.cells l.toArray e fr) := by
    show (w.heap.push (.cells l.toArray e fr))[w.heap.size]? = _
    simp
  have h2 : ((⟨w.heap.size, 0, none⟩ : Addr).add j) = ⟨w.heap.size, j, none⟩ := by
    unfold Addr.add
    by_cases hj : j = 0 <;> simp [hj]
  rw [h2]
  unfold World.cell?
  simp only [h1]
  simpa using hu

theorem info_int : (Tryd.prog.info? 3).map (fun i => (i.zero, i.size, i.bytes)) = some (some (.int .i64 0), 1, 8) := by kernel_rfl
theorem info_string : (Tryd.prog.info? 9).map (fun i => (i.zero, i.size, i.bytes)) = some (some (.string ⟨#[]⟩), 1, 16) := by kernel_rfl
theorem info_wish : (Tryd.prog.info? 95).map (fun i => (i.zero, i.size, i.bytes)) = some (some (.agg #[.string ⟨#[]⟩, .int .i64 0]), 2, 24) := by kernel_rfl

abbrev iv (n : Int) : Value := .int .i64 n
abbrev sv (s : ByteArray) : Value := .string s
def wv : List (ByteArray × Int) → List Value
  | [] => []
  | x :: xs => .string x.1 :: .int .i64 x.2 :: wv xs
theorem wv_length (l : List (ByteArray × Int)) : (wv l).length = l.length * 2 := by
  induction l with
  | nil => rfl
  | cons x xs ih => simp [wv, ih]; omega
theorem wv_append (l k : List (ByteArray × Int)) : wv (l ++ k) = wv l ++ wv k := by
  induction l with
  | nil => rfl
  | cons x xs ih => simp [wv, ih]

/-- good reading makes what is left less. -/
theorem takeP_good (s : Rd) (n : Nat) (h : (takeP s n).2.2 = false) : s.2 = false ∧ (takeP s n).2.1.length + n = s.1.length := by
  unfold takeP at h ⊢
  split
  · rename_i h1
    rw [if_pos h1] at h
    exact ⟨h1.1, by simp; omega⟩
  · rename_i h1
    rw [if_neg h1] at h
    cases h
theorem oneP_good (s : Rd) (h : (oneP s).2.2 = false) : s.2 = false ∧ (oneP s).2.1.length + 1 = s.1.length := takeP_good s 1 h
theorem twoP_good (s : Rd) (h : (twoP s).2.2 = false) : s.2 = false ∧ (twoP s).2.1.length + 2 = s.1.length := by
  obtain ⟨a, b⟩ := oneP_good (oneP s).2 h
  obtain ⟨c, d⟩ := oneP_good s a
  have : (twoP s).2.1 = (oneP (oneP s).2).2.1 := rfl
  rw [this]
  exact ⟨c, by omega⟩
theorem textP_good (s : Rd) (h : (textP s).2.2 = false) : s.2 = false ∧ (textP s).2.1.length + 2 ≤ s.1.length := by
  obtain ⟨a, b⟩ := takeP_good (twoP s).2 (twoP s).1 h
  obtain ⟨c, d⟩ := twoP_good s a
  have : (textP s).2.1 = (takeP (twoP s).2 (twoP s).1).2.1 := rfl
  rw [this]
  exact ⟨c, by omega⟩

theorem RdAt.drew {w : World} {B g : Nat} {s : Rd} (h : RdAt w B g s) : RdAt w.drew B g s := h
theorem of_drew_grown {w w' : World} {row : Option Nat} (h : w.drew.grownBy w' row) : w.grownBy w' row := ⟨h.os, h.tape, h.output, h.size, h.block⟩

theorem grown_mix {w0 w w' : World} {row r2 : Option Nat} (h : w0.grownBy w row) (h2 : w.grownBy w' r2) (hr : ∀ k, r2 = some k → w0.heap.size ≤ k) : w0.grownBy w' row :=
  ⟨h2.os.trans h.os, h2.tape.trans h.tape, h2.output.trans h.output, Nat.le_trans h.size h2.size, fun k hk hne => (h2.block k (Nat.lt_of_lt_of_le hk h.size) (fun e => by have := hr k e.symm; omega)).trans (h.block k hk hne)⟩
/-- behind an append to a row from 'base' on: what was written is none of what was there. -/
theorem grown_row_of {w0 w w' : World} {row : Option Nat} {base : Nat} {e : TypeId} {size n : Nat} {v : Value} {xs : List Value} (h : w0.grownBy w row) (hO : w.ownsRow base e size v n xs) (hb : w0.heap.size ≤ base) (o : Obj) (h3 : (w.alloc o).grownBy w' v.ownBlock) : w0.grownBy w' row :=
  grown_mix (grown_alloc h o) h3 fun k hk => Nat.le_trans hb (hO.lt k hk).1
theorem RdAt.row_of {w w' : World} {B g : Nat} {s : Rd} {base : Nat} {e : TypeId} {size n : Nat} {v : Value} {xs : List Value} (h : RdAt w B g s) (hO : w.ownsRow base e size v n xs) (hg : g < base) (o : Obj) (h3 : (w.alloc o).grownBy w' v.ownBlock) : RdAt w' B g s := by
  have hB : B ≤ g := by obtain ⟨_, _, _, _, _, _, _, _, h, _⟩ := h; exact h
  have h1 : RdAt (w.alloc o) B g s := h.kept (World.grownBy_alloc w o none) (by simp) (by simp)
  exact h1.kept h3 (fun k hk => by have := (hO.lt k hk).1; omega) (own_ne hO (Or.inl hg))
theorem map_iv_snoc (l : List Int) (x : Int) : (l ++ [x]).map iv = l.map iv ++ [iv x] := by simp
theorem map_sv_snoc (l : List ByteArray) (x : ByteArray) : (l ++ [x]).map sv = l.map sv ++ [sv x] := by simp
theorem one_iv (n : Int) : ∀ u ∈ [iv n], u.oneCell' = true := by intro u hu; simp at hu; subst hu; rfl
theorem one_sv (s : ByteArray) : ∀ u ∈ [sv s], u.oneCell' = true := by intro u hu; simp at hu; subst hu; rfl
theorem one_wv (x : ByteArray × Int) : ∀ u ∈ wv [x], u.oneCell' = true := by
  intro u hu
  simp [wv] at hu
  rcases hu with rfl | rfl <;> rfl

theorem takeP_le (s : Rd) (n : Nat) : (takeP s n).2.1.length ≤ s.1.length := by
  unfold takeP; split <;> simp
theorem twoP_le (s : Rd) : (twoP s).2.1.length ≤ s.1.length := Nat.le_trans (takeP_le (oneP s).2 1) (takeP_le s 1)

end Go.Proofs.YtkcdkjpmbjcmdaaDoor

/-
  pack's checks of lists: codes, filters, wishes.
-/
namespace Go.Proofs.YtkcdkjpmbjcmdaaDoor
open Go.RowKit

theorem Reads.get1 {w : World} {B n k : Nat} {A : Option Addr} {xs : List Value} (h : Reads w B 1 A n xs) (hk : k < n) : ∃ b o v, A = some ⟨b, o, none⟩ ∧ b < B ∧ xs[k]? = some v ∧ w.cell? ⟨b, o + k, none⟩ = some v := by
  obtain ⟨ad, hA, hb, hc⟩ := h.2 (by omega)
  have hl : k < xs.length := by have := h.1; omega
  have h0 := hc 0 _ (List.getElem?_eq_getElem (by omega))
  obtain ⟨b, o, spot⟩ := ad
  have hspot : spot = none := by
    have := World.cell?_spot h0
    simpa [Addr.add] using this
  subst hspot
  refine ⟨b, o, xs[k], hA, hb, List.getElem?_eq_getElem hl, ?_⟩
  have := hc k _ (List.getElem?_eq_getElem hl)
  rw [Addr.add_mid] at this
  exact this
theorem Reads.get2 {w : World} {B n k : Nat} {A : Option Addr} {xs : List Value} (h : Reads w B 2 A n xs) (hk : k < n) : ∃ b o, A = some ⟨b, o, none⟩ ∧ b < B ∧ ∀ j v, j < 2 → xs[k * 2 + j]? = some v → w.cell? ⟨b, o + k * 2 + j, none⟩ = some v := by
  obtain ⟨ad, hA, hb, hc⟩ := h.2 (by omega)
  have hl : 0 < xs.length := by have := h.1; omega
  have h0 := hc 0 _ (List.getElem?_eq_getElem hl)
  obtain ⟨b, o, spot⟩ := ad
  have hspot : spot = none := by
    have := World.cell?_spot h0
    simpa [Addr.add] using this
  subst hspot
  refine ⟨b, o, hA, hb, fun j v hj hv => ?_⟩
  have := hc (k * 2 + j) _ hv
  rw [Addr.add_mid, ← Nat.add_assoc] at this
  exact this
theorem wv_get (l : List (ByteArray × Int)) (k : Nat) (x : ByteArray × Int) (h : l[k]? = some x) : (wv l)[k * 2 + 0]? = some (.string x.1) ∧ (wv l)[k * 2 + 1]? = some (.int .i64 x.2) := by
  induction l generalizing k with
  | nil => simp at h
  | cons y ys ih =>
    cases k with
    | zero => simp at h; subst h; simp [wv]
    | succ k =>
      have := ih k (by simpa using h)
      rw [show (k + 1) * 2 = k * 2 + 1 + 1 by omega]
      simpa [wv, Nat.add_right_comm] using this
theorem drop_of {α : Type} {l : List α} {k : Nat} {x : α} (h : l[k]? = some x) : l.drop k = x :: l.drop (k + 1) := drop_get' l k x h

set_option maxHeartbeats 800000 in
theorem packCodes (l : List Int) (n : Nat) (hl : l.length = n) (A : Option Addr) (c : Nat) (hn : n ≤ 140737488351232) (w : World) (hr : Reads w w.heap.size 1 A n (l.map iv)) :
    Calls Tryd.prog 92 #[.slice A n c] w fun e w' => e = .returned (.bool (codesOk l)) ∧ w = w' := by
  have HF := Lib.hid (show codesAll (l.drop 0) = codesAll l from rfl)
  have KW := Lib.hid (fun x w1 => packWithin x 0 2 w1)
  have KE := Lib.hid (fun w1 => packWithin (n : Int) 1 8 w1)
  have HO := Lib.hid (show codesOk l = (codesAll l && inRB n 1 8) by unfold codesOk; rw [hl])
  generalize codesOk l = Z at *
  have HL := Lib.hid hl
  clear hl
  go_enter Tryd.func92, Tryd.ntmps92
  go_wp2
  go_loop [7] (fun i => ∃ k : Nat, i = .int .i64 k ∧ k ≤ n ∧ Hid (codesAll (l.drop k) = codesAll l)) (fun i => n - (intOf i).toNat)
  case atStart => exact ⟨0, rfl, Nat.zero_le _, HF⟩
  case round =>
    obtain ⟨k, rfl, hk, hf⟩ := hrel
    by_cases hlt : k < n
    · obtain ⟨b, o, v, rfl, _, hv, cv⟩ := hr.get1 hlt
      rw [List.getElem?_map] at hv
      obtain ⟨x, hx, rfl⟩ := Option.map_eq_some_iff.1 hv
      have hd := drop_of hx
      have hf2 := hf.out
      rw [hd, codesAll] at hf2
      cases h1 : inRB x 0 2 with
      | true =>
        have K := Lib.hid (fun w1 => h1 ▸ KW.out x w1)
        have HP : Hid (codesAll (l.drop (k + 1)) = codesAll l) := by rw [h1] at hf2; exact hf2
        clear hv hx hd hf2 hf
        go_wp2_with (go_at_call 88; (with_reducible refine (K.out _).mono ?_); rintro _ w2 ⟨rfl, rfl⟩)
        go_round
        case rel => exact ⟨k + 1, by go_num, by omega, HP⟩
        case measure => simp [intOf]; omega
      | false =>
        have K := Lib.hid (fun w1 => h1 ▸ KW.out x w1)
        by_cases h2 : x = 128
        · subst h2
          have HP : Hid (codesAll (l.drop (k + 1)) = codesAll l) := by rw [h1] at hf2; exact hf2
          clear hv hx hd hf2 hf
          go_wp2_with (go_at_call 88; (with_reducible refine (K.out _).mono ?_); rintro _ w2 ⟨rfl, rfl⟩)
          go_round
          case rel => exact ⟨k + 1, by go_num, by omega, HP⟩
          case measure => simp [intOf]; omega
        · have h3 : (x == 128) = false := by rw [beq_eq_false_iff_ne]; exact h2
          have HP : Hid (codesAll l = false) := by rw [h1, h3] at hf2; exact hf2.symm
          clear hv hx hd hf2 hf h2
          go_wp2_with (go_at_call 88; (with_reducible refine (K.out _).mono ?_); rintro _ w2 ⟨rfl, rfl⟩)
          go_ret
          exact ⟨by rw [HO.out, HP.out]; rfl, rfl⟩
    · have HP : Hid (codesAll l = true) := by
        have := hf.out
        rw [List.drop_eq_nil_of_le (by rw [HL.out]; omega)] at this
        exact this.symm
      clear hf
      go_wp2_with (go_at_call 88; (with_reducible refine (KE.out _).mono ?_); rintro _ w2 ⟨rfl, rfl⟩)
      go_ret
      exact ⟨by rw [HO.out, HP.out]; simp, rfl⟩

/-- texts that are not beyond all memory. -/
abbrev Fits (s : ByteArray) : Prop := s.size ≤ 140737488351232

set_option maxHeartbeats 800000 in
theorem packFilters (l : List ByteArray) (n : Nat) (hl : l.length = n) (hfit : ∀ s ∈ l, Fits s) (A : Option Addr) (c : Nat) (hn : n ≤ 140737488351232) (w : World) (hT : Wd w) (hr : Reads w w.heap.size 1 A n (l.map sv)) :
    Calls Tryd.prog 93 #[.slice A n c] w fun e w' => e = .returned (.bool (filtersOk l)) ∧ Below w.heap.size w w' := by
  have HF := Lib.hid (show filtersAll (l.drop 0) = filtersAll l from rfl)
  have KE := Lib.hid (fun w1 => packWithin (n : Int) 1 8 w1)
  have HO := Lib.hid (show filtersOk l = (filtersAll l && inRB n 1 8) by unfold filtersOk; rw [hl])
  generalize filtersOk l = Z at *
  have HL := Lib.hid hl
  have HFit := Lib.hid hfit
  have HR := Lib.hid hr
  have HT := Lib.hid hT
  clear hl hfit hr hT
  go_enter Tryd.func93, Tryd.ntmps93
  go_wp2
  go_loopw [7] (fun i wr => ∃ k : Nat, i = .int .i64 k ∧ k ≤ n ∧ Below w.heap.size w wr ∧ Hid (filtersAll (l.drop k) = filtersAll l)) (fun i _ => n - (intOf i).toNat)
  case atStart => exact ⟨0, rfl, Nat.zero_le _, Below.refl _ _, HF⟩
  case round =>
    obtain ⟨k, rfl, hk, hb, hf⟩ := hrel
    by_cases hlt : k < n
    · obtain ⟨b, o, v, rfl, _, hv, cv⟩ := (HR.out.below hb).get1 hlt
      rw [List.getElem?_map] at hv
      obtain ⟨x, hx, rfl⟩ := Option.map_eq_some_iff.1 hv
      have hd := drop_of hx
      have hf2 := hf.out
      rw [hd, filtersAll] at hf2
      have K := Lib.hid (packTextV x (HFit.out x (List.mem_of_getElem? hx)) 1 64 wr (HT.out.below hb))
      have HB := Lib.hid hb
      cases h1 : textOk x 1 64 with
      | true =>
        rw [h1] at K
        have HP : Hid (filtersAll (l.drop (k + 1)) = filtersAll l) := by rw [h1] at hf2; exact hf2
        clear hv hx hd hf2 hf hb h1
        go_wp2_with (go_at_call 104; (with_reducible refine K.out.mono ?_); rintro _ w2 ⟨rfl, hb2⟩; have HB2 := Lib.hid (HB.out.trans (hb2.mono HB.out.size)); clear hb2)
        go_roundw
        case rel => exact ⟨k + 1, by go_num, by omega, HB2.out, HP⟩
        case measure => simp [intOf]; omega
      | false =>
        rw [h1] at K
        have HP : Hid (filtersAll l = false) := by rw [h1] at hf2; exact hf2.symm
        clear hv hx hd hf2 hf hb h1
        go_wp2_with (go_at_call 104; (with_reducible refine K.out.mono ?_); rintro _ w2 ⟨rfl, hb2⟩; have HB2 := Lib.hid (HB.out.trans (hb2.mono HB.out.size)); clear hb2)
        go_ret
        exact ⟨by rw [HO.out, HP.out]; rfl, HB2.out⟩
    · have HP : Hid (filtersAll l = true) := by
        have := hf.out
        rw [List.drop_eq_nil_of_le (by rw [HL.out]; omega)] at this
        exact this.symm
      clear hf
      go_wp2_with (go_at_call 88; (with_reducible refine (KE.out _).mono ?_); rintro _ w2 ⟨rfl, rfl⟩)
      go_ret
      exact ⟨by rw [HO.out, HP.out]; simp, hb⟩

set_option maxHeartbeats 1600000 in
theorem packWishes (l : List (ByteArray × Int)) (n : Nat) (hl : l.length = n) (hfit : ∀ s ∈ l, Fits s.1) (A : Option Addr) (c : Nat) (hn : n ≤ 140737488351232) (w : World) (hT : Wd w) (hr : Reads w w.heap.size 2 A n (wv l)) :
    Calls Tryd.prog 91 #[.slice A n c] w fun e w' => e = .returned (.bool (wishesOk l)) ∧ Below w.heap.size w w' := by
  have HF := Lib.hid (show wishesAll (l.drop 0) = wishesAll l from rfl)
  have KW := Lib.hid (fun x w1 => packWithin x 0 2 w1)
  have KE := Lib.hid (fun w1 => packWithin (n : Int) 1 8 w1)
  have HO := Lib.hid (show wishesOk l = (wishesAll l && inRB n 1 8) by unfold wishesOk; rw [hl])
  generalize wishesOk l = Z at *
  have HL := Lib.hid hl
  have HFit := Lib.hid hfit
  have HR := Lib.hid hr
  have HT := Lib.hid hT
  clear hl hfit hr hT
  go_enter Tryd.func91, Tryd.ntmps91
  go_wp2
  go_loopw [7] (fun i wr => ∃ k : Nat, i = .int .i64 k ∧ k ≤ n ∧ Below w.heap.size w wr ∧ Hid (wishesAll (l.drop k) = wishesAll l)) (fun i _ => n - (intOf i).toNat)
  case atStart => exact ⟨0, rfl, Nat.zero_le _, Below.refl _ _, HF⟩
  case round =>
    obtain ⟨k, rfl, hk, hb, hf⟩ := hrel
    by_cases hlt : k < n
    · obtain ⟨b, o, rfl, _, hcv⟩ := (HR.out.below hb).get2 hlt
      obtain ⟨x, hx⟩ : ∃ x, l[k]? = some x := ⟨l[k]'(by rw [HL.out]; omega), List.getElem?_eq_getElem _⟩
      obtain ⟨g0, g1⟩ := wv_get l k x hx
      have cv0 := hcv 0 _ (by omega) g0
      have cv1 := hcv 1 _ (by omega) g1
      rw [Nat.add_zero] at cv0
      have hd := drop_of hx
      have hf2 := hf.out
      rw [hd, wishesAll] at hf2
      have hba := balloc wr (.cells #[.string x.1, .int .i64 x.2] 95)
      have HB := Lib.hid (hb.trans (hba.mono hb.size))
      have K := Lib.hid (packTextV x.1 (HFit.out x (List.mem_of_getElem? hx)) 1 64 _ (HT.out.below HB.out))
      have hlt2 : wr.heap.size < (wr.alloc (.cells #[.string x.1, .int .i64 x.2] 95)).heap.size := lt_alloc _ _
      have K2 := Lib.hid (fun w1 => KW.out x.2 w1)
      cases h1 : textOk x.1 1 64 with
      | true =>
        rw [h1] at K hf2
        cases h2 : inRB x.2 0 2 with
        | true =>
          rw [h2] at K2 hf2
          have HP : Hid (wishesAll (l.drop (k + 1)) = wishesAll l) := hf2
          clear hx hd hf2 hf hb h1 h2 g0 g1 hcv hba
          go_wp2_with (first
            | (go_at_call 104; (with_reducible refine K.out.mono ?_); rintro _ w2 ⟨rfl, hb2⟩; have HB2 := Lib.hid (HB.out.trans (hb2.mono HB.out.size)); have c1 : w2.cell? ⟨wr.heap.size, 1, none⟩ = some (.int .i64 x.2) := (by rw [cellB hb2 hlt2]; simp); clear hb2)
            | (go_at_call 88; (with_reducible refine (K2.out _).mono ?_); rintro _ w3 ⟨rfl, rfl⟩))
          go_roundw
          case rel => exact ⟨k + 1, by go_num, by omega, HB2.out, HP⟩
          case measure => simp [intOf]; omega
        | false =>
          rw [h2] at K2 hf2
          have HP : Hid (wishesAll l = false) := hf2.symm
          clear hx hd hf2 hf hb h1 h2 g0 g1 hcv hba
          go_wp2_with (first
            | (go_at_call 104; (with_reducible refine K.out.mono ?_); rintro _ w2 ⟨rfl, hb2⟩; have HB2 := Lib.hid (HB.out.trans (hb2.mono HB.out.size)); have c1 : w2.cell? ⟨wr.heap.size, 1, none⟩ = some (.int .i64 x.2) := (by rw [cellB hb2 hlt2]; simp); clear hb2)
            | (go_at_call 88; (with_reducible refine (K2.out _).mono ?_); rintro _ w3 ⟨rfl, rfl⟩))
          go_ret
          exact ⟨by rw [HO.out, HP.out]; rfl, HB2.out⟩
      | false =>
        rw [h1] at K hf2
        have HP : Hid (wishesAll l = false) := hf2.symm
        clear hx hd hf2 hf hb h1 g0 g1 hcv hba
        go_wp2_with (go_at_call 104; (with_reducible refine K.out.mono ?_); rintro _ w2 ⟨rfl, hb2⟩; have HB2 := Lib.hid (HB.out.trans (hb2.mono HB.out.size)); clear hb2)
        go_ret
        exact ⟨by rw [HO.out, HP.out]; rfl, HB2.out⟩
    · have HP : Hid (wishesAll l = true) := by
        have := hf.out
        rw [List.drop_eq_nil_of_le (by rw [HL.out]; omega)] at this
        exact this.symm
      clear hf
      go_wp2_with (go_at_call 88; (with_reducible refine (KE.out _).mono ?_); rintro _ w2 ⟨rfl, rfl⟩)
      go_ret
      exact ⟨by rw [HO.out, HP.out]; simp, hb⟩

end Go.Proofs.YtkcdkjpmbjcmdaaDoor

/-
  Comparisons of lists: slices.Equal and the page's own, at numbers, texts, wishes.
-/
namespace Go.Proofs.YtkcdkjpmbjcmdaaDoor
open Go.RowKit

def eqG {α : Type} [DecidableEq α] (xs ys : List α) : Bool := decide (xs = ys)
theorem eqG_same {α : Type} [DecidableEq α] (xs : List α) : eqG xs xs = true := by simp [eqG]
theorem eqG_false {α : Type} [DecidableEq α] {xs ys : List α} (h : xs ≠ ys) : eqG xs ys = false := by simpa [eqG] using h
theorem takeG_all {α : Type} {xs ys : List α} {k : Nat} (hk : k = xs.length) (hl : xs.length = ys.length) (h : xs.take k = ys.take k) : xs = ys := by
  subst hk
  rw [List.take_length] at h
  rw [hl, List.take_length] at h
  exact h
theorem takeG_next {α : Type} {xs ys : List α} {k : Nat} {x y : α} (hx : xs[k]? = some x) (hy : ys[k]? = some y) (h : xs.take k = ys.take k) (e : x = y) : xs.take (k + 1) = ys.take (k + 1) := by
  rw [take_snoc? xs k x hx, take_snoc? ys k y hy, h, e]
theorem neG_of {α : Type} {xs ys : List α} {k : Nat} {x y : α} (hx : xs[k]? = some x) (hy : ys[k]? = some y) (e : x ≠ y) : xs ≠ ys := by
  rintro rfl
  rw [hx] at hy
  exact e (by simpa using hy)
theorem str_ne {u v : ByteArray} (h : ¬ u = v) : (u.toList == v.toList) = false := by
  rw [beq_eq_false_iff_ne, Lib.toList_data, Lib.toList_data]
  intro e
  exact h (ByteArray.ext (Array.toList_inj.1 e))
theorem drewN_below {B : Nat} {w0 w : World} (h : Below B w0 w) (n : Nat) : Below B w0 (w.drewN n) := below_drewN h n

set_option maxHeartbeats 1600000 in
theorem eqInts (xs ys : List (Int)) (A B : Option Addr) (c d : Nat) (w : World) (hx : Reads w w.heap.size 1 A xs.length (xs.map iv)) (hy : Reads w w.heap.size 1 B ys.length (ys.map iv)) (hn : xs.length ≤ 140737488351232) :
    Calls Tryd.prog 58 #[.slice A xs.length c, .slice B ys.length d] w fun e w' => e = .returned (.bool (eqG xs ys)) ∧ Below w.heap.size w w' := by
  by_cases hl : xs.length = ys.length
  · have hne : (((xs.length : Int)) != ((ys.length : Nat) : Int)) = false := by simp [hl]
    have hl' := Lib.hid hl
    have hlt2 : ∀ k, k < xs.length → k < ys.length := by rw [hl]; exact fun _ h => h
    clear hl
    go_enter Tryd.func58, Tryd.ntmps58
    go_wp2
    go_loopw [5] (fun i wr => ∃ k n : Nat, k ≤ xs.length ∧ i = .int .i64 k ∧ wr = w.drewN n ∧ Hid (xs.take k = ys.take k)) (fun i _ => xs.length - (intOf i).toNat)
    case atStart => exact ⟨0, 0, Nat.zero_le _, rfl, rfl, rfl⟩
    case round =>
      obtain ⟨k, n, hk, rfl, rfl, ht⟩ := hrel
      by_cases hlt : k < xs.length
      · have hlty := hlt2 k hlt
        obtain ⟨b, o, uu, rfl, _, hu, cu0⟩ := hx.get1 (w := w) hlt
        obtain ⟨b2, o2, vv, rfl, _, hv, cv0⟩ := hy.get1 (w := w) hlty
        rw [List.getElem?_map] at hu hv
        obtain ⟨u, hu2, rfl⟩ := Option.map_eq_some_iff.1 hu
        obtain ⟨v, hv2, rfl⟩ := Option.map_eq_some_iff.1 hv
        clear hu hv
        have hu := hu2
        have hv := hv2
        clear hu2 hv2
        clear hlt2
        have hu' := Lib.hid hu
        have hv' := Lib.hid hv
        have hi : (k : Int) < (xs.length : Int) := by omega
        have hi2 : (k : Int) < (ys.length : Int) := by omega
        clear hu hv
        by_cases he : u = v
        · have HT : Hid (xs.take (k + 1) = ys.take (k + 1)) := takeG_next hu'.out hv'.out ht.out he
          have hne2 : (u != v) = false := by simp [he]
          go_wp2_with fail
          go_quiet (fail)
          go_wp2
          go_roundw
          case rel => exact ⟨k + 1, _, by omega, by go_num, rfl, HT⟩
          case measure => simp [intOf]; omega
        · have HT : Hid (eqG xs ys = false) := eqG_false (neG_of hu'.out hv'.out he)
          have hne2 : (u != v) = true := by simpa using he
          go_wp2_with fail
          go_quiet (fail)
          go_wp2
          go_ret
          exact ⟨by rw [HT.out]; rfl, drewN_below (drewN_below (Below.refl _ _) _) _⟩
      · have HT : Hid (eqG xs ys = true) := by rw [takeG_all (by omega) hl'.out ht.out]; exact eqG_same _
        go_wp2
        go_ret
        exact ⟨by rw [HT.out]; rfl, drewN_below (Below.refl _ _) _⟩
  · have hne : (((xs.length : Int)) != ((ys.length : Nat) : Int)) = true := by
      simp only [bne_iff_ne, ne_eq, Int.natCast_inj]; exact hl
    have HT : Hid (eqG xs ys = false) := eqG_false (fun h => hl (by rw [h]))
    clear hl
    go_enter Tryd.func58, Tryd.ntmps58
    go_wp2
    go_ret
    exact ⟨by rw [HT.out]; rfl, Below.refl _ _⟩

set_option maxHeartbeats 1600000 in
theorem eqStrs (xs ys : List (ByteArray)) (A B : Option Addr) (c d : Nat) (w : World) (hx : Reads w w.heap.size 1 A xs.length (xs.map sv)) (hy : Reads w w.heap.size 1 B ys.length (ys.map sv)) (hn : xs.length ≤ 140737488351232) :
    Calls Tryd.prog 60 #[.slice A xs.length c, .slice B ys.length d] w fun e w' => e = .returned (.bool (eqG xs ys)) ∧ Below w.heap.size w w' := by
  by_cases hl : xs.length = ys.length
  · have hne : (((xs.length : Int)) != ((ys.length : Nat) : Int)) = false := by simp [hl]
    have hl' := Lib.hid hl
    have hlt2 : ∀ k, k < xs.length → k < ys.length := by rw [hl]; exact fun _ h => h
    clear hl
    go_enter Tryd.func60, Tryd.ntmps60
    go_wp2
    go_loopw [5] (fun i wr => ∃ k n : Nat, k ≤ xs.length ∧ i = .int .i64 k ∧ wr = w.drewN n ∧ Hid (xs.take k = ys.take k)) (fun i _ => xs.length - (intOf i).toNat)
    case atStart => exact ⟨0, 0, Nat.zero_le _, rfl, rfl, rfl⟩
    case round =>
      obtain ⟨k, n, hk, rfl, rfl, ht⟩ := hrel
      by_cases hlt : k < xs.length
      · have hlty := hlt2 k hlt
        obtain ⟨b, o, uu, rfl, _, hu, cu0⟩ := hx.get1 (w := w) hlt
        obtain ⟨b2, o2, vv, rfl, _, hv, cv0⟩ := hy.get1 (w := w) hlty
        rw [List.getElem?_map] at hu hv
        obtain ⟨u, hu2, rfl⟩ := Option.map_eq_some_iff.1 hu
        obtain ⟨v, hv2, rfl⟩ := Option.map_eq_some_iff.1 hv
        clear hu hv
        have hu := hu2
        have hv := hv2
        clear hu2 hv2
        clear hlt2
        have hu' := Lib.hid hu
        have hv' := Lib.hid hv
        have hi : (k : Int) < (xs.length : Int) := by omega
        have hi2 : (k : Int) < (ys.length : Int) := by omega
        clear hu hv
        by_cases he : u = v
        · have HT : Hid (xs.take (k + 1) = ys.take (k + 1)) := takeG_next hu'.out hv'.out ht.out he
          subst he
          go_wp2_with fail
          go_quiet (fail)
          go_wp2
          go_roundw
          case rel => exact ⟨k + 1, _, by omega, by go_num, rfl, HT⟩
          case measure => simp [intOf]; omega
        · have HT : Hid (eqG xs ys = false) := eqG_false (neG_of hu'.out hv'.out he)
          have hne2 := str_ne he
          go_wp2_with fail
          go_quiet (fail)
          go_wp2
          go_ret
          exact ⟨by rw [HT.out]; rfl, drewN_below (drewN_below (Below.refl _ _) _) _⟩
      · have HT : Hid (eqG xs ys = true) := by rw [takeG_all (by omega) hl'.out ht.out]; exact eqG_same _
        go_wp2
        go_ret
        exact ⟨by rw [HT.out]; rfl, drewN_below (Below.refl _ _) _⟩
  · have hne : (((xs.length : Int)) != ((ys.length : Nat) : Int)) = true := by
      simp only [bne_iff_ne, ne_eq, Int.natCast_inj]; exact hl
    have HT : Hid (eqG xs ys = false) := eqG_false (fun h => hl (by rw [h]))
    clear hl
    go_enter Tryd.func60, Tryd.ntmps60
    go_wp2
    go_ret
    exact ⟨by rw [HT.out]; rfl, Below.refl _ _⟩

set_option maxHeartbeats 1600000 in
theorem eqWishes (xs ys : List (ByteArray × Int)) (A B : Option Addr) (c d : Nat) (w : World) (hx : Reads w w.heap.size 2 A xs.length (wv xs)) (hy : Reads w w.heap.size 2 B ys.length (wv ys)) (hn : xs.length ≤ 140737488351232) :
    Calls Tryd.prog 59 #[.slice A xs.length c, .slice B ys.length d] w fun e w' => e = .returned (.bool (eqG xs ys)) ∧ Below w.heap.size w w' := by
  by_cases hl : xs.length = ys.length
  · have hne : (((xs.length : Int)) != ((ys.length : Nat) : Int)) = false := by simp [hl]
    have hl' := Lib.hid hl
    have hlt2 : ∀ k, k < xs.length → k < ys.length := by rw [hl]; exact fun _ h => h
    clear hl
    go_enter Tryd.func59, Tryd.ntmps59
    go_wp2
    go_loopw [5] (fun i wr => ∃ k n : Nat, k ≤ xs.length ∧ i = .int .i64 k ∧ wr = w.drewN n ∧ Hid (xs.take k = ys.take k)) (fun i _ => xs.length - (intOf i).toNat)
    case atStart => exact ⟨0, 0, Nat.zero_le _, rfl, rfl, rfl⟩
    case round =>
      obtain ⟨k, n, hk, rfl, rfl, ht⟩ := hrel
      by_cases hlt : k < xs.length
      · have hlty := hlt2 k hlt
        obtain ⟨b, o, rfl, _, hcv⟩ := hx.get2 (w := w) hlt
        obtain ⟨b2, o2, rfl, _, hcv2⟩ := hy.get2 (w := w) hlty
        obtain ⟨u, hu⟩ : ∃ u, xs[k]? = some u := ⟨xs[k]'hlt, List.getElem?_eq_getElem _⟩
        obtain ⟨v, hv⟩ : ∃ v, ys[k]? = some v := ⟨ys[k]'hlty, List.getElem?_eq_getElem _⟩
        obtain ⟨g0, g1⟩ := wv_get xs k u hu
        obtain ⟨p0, p1⟩ := wv_get ys k v hv
        have cu0 := hcv 0 _ (by omega) g0
        have cu1 := hcv 1 _ (by omega) g1
        have cv0 := hcv2 0 _ (by omega) p0
        have cv1 := hcv2 1 _ (by omega) p1
        rw [Nat.add_zero] at cu0 cv0
        clear g0 g1 p0 p1 hcv hcv2
        clear hlt2
        have hu' := Lib.hid hu
        have hv' := Lib.hid hv
        have hi : (k : Int) < (xs.length : Int) := by omega
        have hi2 : (k : Int) < (ys.length : Int) := by omega
        clear hu hv
        by_cases he : u = v
        · have HT : Hid (xs.take (k + 1) = ys.take (k + 1)) := takeG_next hu'.out hv'.out ht.out he
          subst he
          go_wp2_with fail
          go_quiet (fail)
          go_wp2
          go_roundw
          case rel => exact ⟨k + 1, _, by omega, by go_num, rfl, HT⟩
          case measure => simp [intOf]; omega
        · have HT : Hid (eqG xs ys = false) := eqG_false (neG_of hu'.out hv'.out he)
          by_cases h1 : u.1 = v.1
          · have h2 : ¬ u.2 = v.2 := fun h => he (Prod.ext h1 h)
            clear he
            have h3 : (u.2 == v.2) = false := by rw [beq_eq_false_iff_ne]; exact h2
            go_wp2_with fail
            go_quiet (fail)
            go_wp2
            go_ret
            exact ⟨by rw [HT.out]; rfl, drewN_below (drewN_below (Below.refl _ _) _) _⟩
          · have h3 := str_ne h1
            clear he h1
            go_wp2_with fail
            go_quiet (fail)
            go_wp2
            go_ret
            exact ⟨by rw [HT.out]; rfl, drewN_below (drewN_below (Below.refl _ _) _) _⟩
      · have HT : Hid (eqG xs ys = true) := by rw [takeG_all (by omega) hl'.out ht.out]; exact eqG_same _
        go_wp2
        go_ret
        exact ⟨by rw [HT.out]; rfl, drewN_below (Below.refl _ _) _⟩
  · have hne : (((xs.length : Int)) != ((ys.length : Nat) : Int)) = true := by
      simp only [bne_iff_ne, ne_eq, Int.natCast_inj]; exact hl
    have HT : Hid (eqG xs ys = false) := eqG_false (fun h => hl (by rw [h]))
    clear hl
    go_enter Tryd.func59, Tryd.ntmps59
    go_wp2
    go_ret
    exact ⟨by rw [HT.out]; rfl, Below.refl _ _⟩

set_option maxHeartbeats 1600000 in
theorem slInts (xs ys : List (Int)) (A B : Option Addr) (c d : Nat) (w : World) (hx : Reads w w.heap.size 1 A xs.length (xs.map iv)) (hy : Reads w w.heap.size 1 B ys.length (ys.map iv)) (hn : xs.length ≤ 140737488351232) :
    Calls Tryd.prog 94 #[.slice A xs.length c, .slice B ys.length d] w fun e w' => e = .returned (.bool (eqG xs ys)) ∧ Below w.heap.size w w' := by
  by_cases hl : xs.length = ys.length
  · have hne : (((xs.length : Int)) != ((ys.length : Nat) : Int)) = false := by simp [hl]
    have hl' := Lib.hid hl
    have hlt2 : ∀ k, k < xs.length → k < ys.length := by rw [hl]; exact fun _ h => h
    clear hl
    go_enter Tryd.func94, Tryd.ntmps94
    go_wp2
    go_loopw [13] (fun i wr => ∃ k n : Nat, k ≤ xs.length ∧ i = .int .i64 k ∧ wr = w.drewN n ∧ Hid (xs.take k = ys.take k)) (fun i _ => xs.length - (intOf i).toNat)
    case atStart => exact ⟨0, 0, Nat.zero_le _, rfl, rfl, rfl⟩
    case round =>
      obtain ⟨k, n, hk, rfl, rfl, ht⟩ := hrel
      by_cases hlt : k < xs.length
      · have hlty := hlt2 k hlt
        obtain ⟨b, o, uu, rfl, _, hu, cu0⟩ := hx.get1 (w := w) hlt
        obtain ⟨b2, o2, vv, rfl, _, hv, cv0⟩ := hy.get1 (w := w) hlty
        rw [List.getElem?_map] at hu hv
        obtain ⟨u, hu2, rfl⟩ := Option.map_eq_some_iff.1 hu
        obtain ⟨v, hv2, rfl⟩ := Option.map_eq_some_iff.1 hv
        clear hu hv
        have hu := hu2
        have hv := hv2
        clear hu2 hv2
        clear hlt2
        have hu' := Lib.hid hu
        have hv' := Lib.hid hv
        have hi : (k : Int) < (xs.length : Int) := by omega
        have hi2 : (k : Int) < (ys.length : Int) := by omega
        clear hu hv
        by_cases he : u = v
        · have HT : Hid (xs.take (k + 1) = ys.take (k + 1)) := takeG_next hu'.out hv'.out ht.out he
          have hne2 : (u != v) = false := by simp [he]
          go_wp2_with fail
          go_quiet (fail)
          go_wp2
          go_roundw
          case rel => exact ⟨k + 1, _, by omega, by go_num, rfl, HT⟩
          case measure => simp [intOf]; omega
        · have HT : Hid (eqG xs ys = false) := eqG_false (neG_of hu'.out hv'.out he)
          have hne2 : (u != v) = true := by simpa using he
          go_wp2_with fail
          go_quiet (fail)
          go_wp2
          go_ret
          exact ⟨by rw [HT.out]; rfl, drewN_below (drewN_below (Below.refl _ _) _) _⟩
      · have HT : Hid (eqG xs ys = true) := by rw [takeG_all (by omega) hl'.out ht.out]; exact eqG_same _
        go_wp2
        go_ret
        exact ⟨by rw [HT.out]; rfl, drewN_below (Below.refl _ _) _⟩
  · have hne : (((xs.length : Int)) != ((ys.length : Nat) : Int)) = true := by
      simp only [bne_iff_ne, ne_eq, Int.natCast_inj]; exact hl
    have HT : Hid (eqG xs ys = false) := eqG_false (fun h => hl (by rw [h]))
    clear hl
    go_enter Tryd.func94, Tryd.ntmps94
    go_wp2
    go_ret
    exact ⟨by rw [HT.out]; rfl, Below.refl _ _⟩

set_option maxHeartbeats 1600000 in
theorem slStrs (xs ys : List (ByteArray)) (A B : Option Addr) (c d : Nat) (w : World) (hx : Reads w w.heap.size 1 A xs.length (xs.map sv)) (hy : Reads w w.heap.size 1 B ys.length (ys.map sv)) (hn : xs.length ≤ 140737488351232) :
    Calls Tryd.prog 96 #[.slice A xs.length c, .slice B ys.length d] w fun e w' => e = .returned (.bool (eqG xs ys)) ∧ Below w.heap.size w w' := by
  by_cases hl : xs.length = ys.length
  · have hne : (((xs.length : Int)) != ((ys.length : Nat) : Int)) = false := by simp [hl]
    have hl' := Lib.hid hl
    have hlt2 : ∀ k, k < xs.length → k < ys.length := by rw [hl]; exact fun _ h => h
    clear hl
    go_enter Tryd.func96, Tryd.ntmps96
    go_wp2
    go_loopw [13] (fun i wr => ∃ k n : Nat, k ≤ xs.length ∧ i = .int .i64 k ∧ wr = w.drewN n ∧ Hid (xs.take k = ys.take k)) (fun i _ => xs.length - (intOf i).toNat)
    case atStart => exact ⟨0, 0, Nat.zero_le _, rfl, rfl, rfl⟩
    case round =>
      obtain ⟨k, n, hk, rfl, rfl, ht⟩ := hrel
      by_cases hlt : k < xs.length
      · have hlty := hlt2 k hlt
        obtain ⟨b, o, uu, rfl, _, hu, cu0⟩ := hx.get1 (w := w) hlt
        obtain ⟨b2, o2, vv, rfl, _, hv, cv0⟩ := hy.get1 (w := w) hlty
        rw [List.getElem?_map] at hu hv
        obtain ⟨u, hu2, rfl⟩ := Option.map_eq_some_iff.1 hu
        obtain ⟨v, hv2, rfl⟩ := Option.map_eq_some_iff.1 hv
        clear hu hv
        have hu := hu2
        have hv := hv2
        clear hu2 hv2
        clear hlt2
        have hu' := Lib.hid hu
        have hv' := Lib.hid hv
        have hi : (k : Int) < (xs.length : Int) := by omega
        have hi2 : (k : Int) < (ys.length : Int) := by omega
        clear hu hv
        by_cases he : u = v
        · have HT : Hid (xs.take (k + 1) = ys.take (k + 1)) := takeG_next hu'.out hv'.out ht.out he
          subst he
          go_wp2_with fail
          go_quiet (fail)
          go_wp2
          go_roundw
          case rel => exact ⟨k + 1, _, by omega, by go_num, rfl, HT⟩
          case measure => simp [intOf]; omega
        · have HT : Hid (eqG xs ys = false) := eqG_false (neG_of hu'.out hv'.out he)
          have hne2 := str_ne he
          go_wp2_with fail
          go_quiet (fail)
          go_wp2
          go_ret
          exact ⟨by rw [HT.out]; rfl, drewN_below (drewN_below (Below.refl _ _) _) _⟩
      · have HT : Hid (eqG xs ys = true) := by rw [takeG_all (by omega) hl'.out ht.out]; exact eqG_same _
        go_wp2
        go_ret
        exact ⟨by rw [HT.out]; rfl, drewN_below (Below.refl _ _) _⟩
  · have hne : (((xs.length : Int)) != ((ys.length : Nat) : Int)) = true := by
      simp only [bne_iff_ne, ne_eq, Int.natCast_inj]; exact hl
    have HT : Hid (eqG xs ys = false) := eqG_false (fun h => hl (by rw [h]))
    clear hl
    go_enter Tryd.func96, Tryd.ntmps96
    go_wp2
    go_ret
    exact ⟨by rw [HT.out]; rfl, Below.refl _ _⟩

set_option maxHeartbeats 1600000 in
theorem slWishes (xs ys : List (ByteArray × Int)) (A B : Option Addr) (c d : Nat) (w : World) (hx : Reads w w.heap.size 2 A xs.length (wv xs)) (hy : Reads w w.heap.size 2 B ys.length (wv ys)) (hn : xs.length ≤ 140737488351232) :
    Calls Tryd.prog 95 #[.slice A xs.length c, .slice B ys.length d] w fun e w' => e = .returned (.bool (eqG xs ys)) ∧ Below w.heap.size w w' := by
  by_cases hl : xs.length = ys.length
  · have hne : (((xs.length : Int)) != ((ys.length : Nat) : Int)) = false := by simp [hl]
    have hl' := Lib.hid hl
    have hlt2 : ∀ k, k < xs.length → k < ys.length := by rw [hl]; exact fun _ h => h
    clear hl
    go_enter Tryd.func95, Tryd.ntmps95
    go_wp2
    go_loopw [13] (fun i wr => ∃ k n : Nat, k ≤ xs.length ∧ i = .int .i64 k ∧ wr = w.drewN n ∧ Hid (xs.take k = ys.take k)) (fun i _ => xs.length - (intOf i).toNat)
    case atStart => exact ⟨0, 0, Nat.zero_le _, rfl, rfl, rfl⟩
    case round =>
      obtain ⟨k, n, hk, rfl, rfl, ht⟩ := hrel
      by_cases hlt : k < xs.length
      · have hlty := hlt2 k hlt
        obtain ⟨b, o, rfl, _, hcv⟩ := hx.get2 (w := w) hlt
        obtain ⟨b2, o2, rfl, _, hcv2⟩ := hy.get2 (w := w) hlty
        obtain ⟨u, hu⟩ : ∃ u, xs[k]? = some u := ⟨xs[k]'hlt, List.getElem?_eq_getElem _⟩
        obtain ⟨v, hv⟩ : ∃ v, ys[k]? = some v := ⟨ys[k]'hlty, List.getElem?_eq_getElem _⟩
        obtain ⟨g0, g1⟩ := wv_get xs k u hu
        obtain ⟨p0, p1⟩ := wv_get ys k v hv
        have cu0 := hcv 0 _ (by omega) g0
        have cu1 := hcv 1 _ (by omega) g1
        have cv0 := hcv2 0 _ (by omega) p0
        have cv1 := hcv2 1 _ (by omega) p1
        rw [Nat.add_zero] at cu0 cv0
        clear g0 g1 p0 p1 hcv hcv2
        clear hlt2
        have hu' := Lib.hid hu
        have hv' := Lib.hid hv
        have hi : (k : Int) < (xs.length : Int) := by omega
        have hi2 : (k : Int) < (ys.length : Int) := by omega
        clear hu hv
        by_cases he : u = v
        · have HT : Hid (xs.take (k + 1) = ys.take (k + 1)) := takeG_next hu'.out hv'.out ht.out he
          subst he
          go_wp2_with fail
          go_quiet (fail)
          go_wp2
          go_roundw
          case rel => exact ⟨k + 1, _, by omega, by go_num, rfl, HT⟩
          case measure => simp [intOf]; omega
        · have HT : Hid (eqG xs ys = false) := eqG_false (neG_of hu'.out hv'.out he)
          by_cases h1 : u.1 = v.1
          · have h2 : ¬ u.2 = v.2 := fun h => he (Prod.ext h1 h)
            clear he
            have h3 : (u.2 == v.2) = false := by rw [beq_eq_false_iff_ne]; exact h2
            go_wp2_with fail
            go_quiet (fail)
            go_wp2
            go_ret
            exact ⟨by rw [HT.out]; rfl, drewN_below (drewN_below (Below.refl _ _) _) _⟩
          · have h3 := str_ne h1
            clear he h1
            go_wp2_with fail
            go_quiet (fail)
            go_wp2
            go_ret
            exact ⟨by rw [HT.out]; rfl, drewN_below (drewN_below (Below.refl _ _) _) _⟩
      · have HT : Hid (eqG xs ys = true) := by rw [takeG_all (by omega) hl'.out ht.out]; exact eqG_same _
        go_wp2
        go_ret
        exact ⟨by rw [HT.out]; rfl, drewN_below (Below.refl _ _) _⟩
  · have hne : (((xs.length : Int)) != ((ys.length : Nat) : Int)) = true := by
      simp only [bne_iff_ne, ne_eq, Int.natCast_inj]; exact hl
    have HT : Hid (eqG xs ys = false) := eqG_false (fun h => hl (by rw [h]))
    clear hl
    go_enter Tryd.func95, Tryd.ntmps95
    go_wp2
    go_ret
    exact ⟨by rw [HT.out]; rfl, Below.refl _ _⟩

end Go.Proofs.YtkcdkjpmbjcmdaaDoor

/-
  Operations on a whole struct, the world behind them a letter: what is made, stored, read.
-/
namespace Go.Proofs.YtkcdkjpmbjcmdaaDoor
open Go.RowKit

theorem Cells.of_heap {w : World} {g : Nat} {l : List Value} {T : TypeId} (h : w.heap[g]? = some (.cells l.toArray T (0, 0))) : Cells w g l := fun j v hv =>
  ⟨by rw [cell_of_row w g j _ _ _ h]; simpa using hv, frozen_of_row w g j _ _ h⟩
theorem Cells.range {w : World} {g : Nat} {l : List Value} (h : Cells w g l) : w.rangeAt g 0 l := fun j v hv => by
  rw [Nat.zero_add]
  exact (h j v hv).1
theorem Cells.there {w : World} {g : Nat} {l : List Value} (h : Cells w g l) : w.there g 0 l.length := fun j hj => by
  rw [Nat.zero_add]
  obtain ⟨a, b⟩ := h j _ (List.getElem?_eq_getElem hj)
  exact ⟨by rw [a]; rfl, b⟩
theorem setCells_only (g : Nat) : ∀ (vs : List Value) (o : Nat) (w : World), Only g w (w.setCells g o vs) ∧ w.grownBy (w.setCells g o vs) (some g)
  | [], _, w => ⟨Only.refl g w, World.grownBy.refl w _⟩
  | v :: vs, o, w => by
    obtain ⟨a, b⟩ := setCells_only g vs (o + 1) (w.setCell ⟨g, o, none⟩ v)
    exact ⟨((Only.refl g w).set o v).trans a, (grown_setCell w g o v).trans b⟩
theorem there_frozen {w : World} {g n : Nat} (vs : List Value) (h : w.there g 0 n) : (w.setCells g 0 vs).there g 0 n := World.there_setCells h g 0 vs

section
variable {P : Program} {ops : Array Oper} {rest : List Oper} {o : Oper} {a : Act} {w : World} {Q : Exit → Act → World → Prop}
/-- 'new': the block of a struct's zero value. -/
theorem wpList_alloc_cells (hgd : o.guard = none) (T : TypeId) (ho : o.op = .alloc T) (l : List Value) (hz : ∀ w, (zeroValue T).run P w = .ok (.agg l.toArray) w)
    (H : Nat) (hH : w.heap.size = H) (h : ∀ w', Below H w w' → w'.heap.size = H + 1 → Cells w' H l → wpList P ops Q rest (a.put o.dst (.pointer (some ⟨H, 0, none⟩))) w') :
    wpList P ops Q (o :: rest) a w := by
  subst hH
  refine Great.wpList_runTo hgd o.dst rfl _ (w.alloc (.cells l.toArray T)) ?_ (h _ (balloc w _) (by simp) (Cells.of_heap (heap_alloc_new w _)))
  unfold execOp
  simp only [ho]
  simp [Instr.alloc, hz, Sem.run_bind, Result.andThen, newVar, newRow, Value.cells, newObj]
  rfl
/-- a parameter's box. -/
theorem wpList_box_cells (hgd : o.guard = none) (T : TypeId) (x : Operand) (ho : o.op = .box T x) (l : List Value) (hx : a.eval x = .agg l.toArray)
    (H : Nat) (hH : w.heap.size = H) (h : ∀ w', Below H w w' → w'.heap.size = H + 1 → Cells w' H l → wpList P ops Q rest (a.put o.dst (.pointer (some ⟨H, 0, none⟩))) w') :
    wpList P ops Q (o :: rest) a w := by
  subst hH
  refine Great.wpList_runTo hgd o.dst rfl _ (w.alloc (.cells l.toArray T)) ?_ (h _ (balloc w _) (by simp) (Cells.of_heap (heap_alloc_new w _)))
  unfold execOp
  simp only [ho]
  simp [Instr.box, hx, Result.andThen, newVar, newRow, Value.cells, newObj]
  rfl
/-- a struct is stored whole. -/
theorem wpList_store_cells (hgd : o.guard = none) (T : TypeId) (x y : Operand) (ho : o.op = .store T x y) (g : Nat) (hx : a.eval x = .pointer (some ⟨g, 0, none⟩)) (l : List Value) (hy : a.eval y = .agg l.toArray)
    {l0 : List Value} (hC : Cells w g l0) (n : Nat) (hi : (P.info? T).map (·.size) = some n) (hl0 : l0.length = n) (hl1 : l.length = n) (h1 : l.all (·.oneCell') = true)
    (h : ∀ w', w.grownBy w' (some g) → w'.heap.size = w.heap.size → Cells w' g l → wpList P ops Q rest (a.put o.dst undef) w') :
    wpList P ops Q (o :: rest) a w := by
  have ht := hC.there
  rw [hl0, ← hl1] at ht
  rw [← hl1] at hi
  refine wpList_store_mid hgd T x y ho g 0 l.toArray hx hy (by simpa using ht) (by simpa using hi) (all_oneCell_toArray fun v hv => List.all_eq_true.1 h1 v hv) ?_
  obtain ⟨hO, hG⟩ := setCells_only g l 0 w
  refine h _ hG hO.size ?_
  intro j v hv
  have hj : j < l.length := (List.getElem?_eq_some_iff.1 hv).1
  have hr := World.rangeAt_setCells_same w g 0 l ht j v hv
  rw [Nat.zero_add] at hr
  have hf := (there_frozen l ht j hj).2
  rw [Nat.zero_add] at hf
  exact ⟨hr, hf⟩
/-- a struct is read whole. -/
theorem wpList_load_cells (hgd : o.guard = none) (T : TypeId) (x : Operand) (ho : o.op = .load T x) (g : Nat) (hx : a.eval x = .pointer (some ⟨g, 0, none⟩)) {l : List Value} (hC : Cells w g l) (d : TypeDesc)
    (hu : P.underlying T = some d) (hd : d.isRow = true) (n : Nat) (hi : (P.info? T).map (·.size) = some n) (hl : l.length = n) (h : wpList P ops Q rest (a.put o.dst (.agg l.toArray)) w) : wpList P ops Q (o :: rest) a w :=
  wpList_load_mid hgd T x ho g 0 hx l d hC.range hu hd (by rw [hl]; exact hi) h
/-- a struct is the result. -/
theorem results_cells {fn : Func} {p : Tmp} {T : TypeId} (h : fn.results = #[.cell p T]) (tmps : Array Value) {w : World} {g : Nat} {l : List Value} (d : TypeDesc) (hp : tmps.getD p undef = .pointer (some ⟨g, 0, none⟩)) (hC : Cells w g l)
    (hu : P.underlying T = some d) (hd : d.isRow = true) (n : Nat) (hi : (P.info? T).map (·.size) = some n) (hl : l.length = n) : (results fn tmps).run P w = .ok (.agg l.toArray) w := by
  rw [← hl] at hi
  have hp' : tmps[p]?.getD undef = .pointer (some ⟨g, 0, none⟩) := by simpa using hp
  simp [results, h, hp', asAddr, run_loadVar_mid w g 0 T l d hC.range hu hd hi]
end

theorem zero_mq (w : World) : (zeroValue 30).run Tryd.prog w = .ok (.agg (mqCells (mq0 0) nilV nilV nilV).toArray) w := by kernel_rfl
theorem size_mq : (Tryd.prog.info? 30).map (·.size) = some 24 := by kernel_rfl

end Go.Proofs.YtkcdkjpmbjcmdaaDoor

/-
  A chain 'a.f == b.f && ..' in one region: one link of it, at a frame of which only the two boxes and what came of the links ahead are known.
-/
namespace Go.Proofs.YtkcdkjpmbjcmdaaDoor
open Go.RowKit

section
variable {P : Program} {ops : Array Oper} {rest : List Oper} {o : Oper} {a : Act} {w : World} {Q : Exit → Act → World → Prop}
theorem wpList_go (hw : Region.wanted o (yielded ops a.tmps) = true) (d : Nat) (hd : o.dst = some d) (v : Value) (w' : World) (hrun : (execOp a.eval o).run P w = .ok (.value v) w')
    (h : wpList P ops Q rest (a.put (some d) v) w') : wpList P ops Q (o :: rest) a w := by
  unfold wpList
  rw [if_pos hw]
  left
  unfold Oper.wp
  rw [hrun, Oper.upon_value, hd]
  exact h
theorem wpList_off (hw : Region.wanted o (yielded ops a.tmps) = false) (d : Nat) (hd : o.dst = some d) (h : wpList P ops Q rest (a.put (some d) undef) w) : wpList P ops Q (o :: rest) a w := by
  refine wpList_skip hw ?_
  rw [hd]
  exact h
theorem wpList_enter (hw : Region.wanted o (yielded ops a.tmps) = true) (d : Nat) (hd : o.dst = some d) (f : FuncId) (args : Array Value) (hrun : (execOp a.eval o).run P w = .ok (.enter f args) w)
    (R : Value → World → Prop) (hc : Calls P f args w fun e w' => ∃ v, e = .returned v ∧ R v w') (h : ∀ v w', R v w' → wpList P ops Q rest (a.put (some d) v) w') : wpList P ops Q (o :: rest) a w := by
  unfold wpList
  rw [if_pos hw]
  left
  unfold Oper.wp
  rw [hrun, Oper.upon_enter]
  refine hc.mono ?_
  rintro e w' ⟨v, rfl, hR⟩
  rw [hd]
  exact h v w' hR
end
theorem wanted_none {o : Oper} (h : o.guard = none) (y : Nat → Option Bool) : Region.wanted o y = true := by simp [Region.wanted, h]
theorem wanted_of {o : Oper} {j : Nat} (h : o.guard = some (j, true)) {y : Nat → Option Bool} {b : Bool} (hy : y j = some b) : Region.wanted o y = b := by
  simp only [Region.wanted, h, hy]
  cases b <;> rfl
theorem eval_lt {a : Act} {t : Nat} {b : Bool} (h : a.eval (.tmp t) = .bool b) : a.tmps[t]? = some (.bool b) := by
  simp only [Act.eval, Array.getD_eq_getD_getElem?] at h
  cases e : a.tmps[t]? with
  | none => rw [e] at h; cases h
  | some v => rw [e] at h; simpa using h
theorem yielded_of {ops : Array Oper} {a : Act} {j d : Nat} {b : Bool} (hj : (ops[j]?).bind (·.dst) = some d) (h : a.eval (.tmp d) = .bool b) : yielded ops a.tmps j = some b := by
  simp [yielded, hj, eval_lt h]

/-- a frame of n slots: the boxes in 2 and 3, and c in slot k. -/
structure Fr (a : Act) (n ga gb k : Nat) (c : Bool) : Prop where
  sz : a.tmps.size = n
  df : a.defers = []
  t2 : a.eval (.tmp 2) = .pointer (some ⟨ga, 0, none⟩)
  t3 : a.eval (.tmp 3) = .pointer (some ⟨gb, 0, none⟩)
  tk : a.eval (.tmp k) = .bool c

/-- a slot above the boxes is written. -/
theorem Fr.put {a : Act} {n ga gb k : Nat} {c : Bool} (h : Fr a n ga gb k c) (d : Nat) (hd : 3 < d) (hk : d ≠ k) (v : Value) : Fr (a.put (some d) v) n ga gb k c :=
  ⟨by rw [Act.size_put, h.sz], by rw [Act.defers_put', h.df], by rw [Act.eval_put_ne _ _ _ _ (by omega), h.t2], by rw [Act.eval_put_ne _ _ _ _ (by omega), h.t3], by rw [Act.eval_put_ne _ _ _ _ hk, h.tk]⟩
theorem Fr.res {a : Act} {n ga gb k : Nat} {c : Bool} (h : Fr a n ga gb k c) (d : Nat) (hd : 3 < d) (hn : d < n) (b : Bool) : Fr (a.put (some d) (.bool b)) n ga gb d b :=
  ⟨by rw [Act.size_put, h.sz], by rw [Act.defers_put', h.df], by rw [Act.eval_put_ne _ _ _ _ (by omega), h.t2], by rw [Act.eval_put_ne _ _ _ _ (by omega), h.t3], Act.eval_put_same _ _ _ (by rw [h.sz]; exact hn)⟩

section
variable {P : Program} {ops : Array Oper} {rest : List Oper} {a : Act} {w : World} {Q : Exit → Act → World → Prop} {n ga gb k j d0 d1 d2 d3 d4 d5 d6 S T T' f off : Nat} {c e : Bool} {va vb : Value}
  {y0 y1 y2 y3 y4 y5 y6 : TypeId} {p0 p1 p2 p3 p4 p5 p6 : String} {f0 f1 f2 f3 f4 f5 f6 : Array Edge}

theorem wpList_link (hF : Fr a n ga gb k c) (hk : 3 < k) (hd0 : d0 = k + 1) (hd1 : d1 = k + 2) (hd2 : d2 = k + 3) (hd3 : d3 = k + 4) (hd4 : d4 = k + 5) (hd5 : d5 = k + 6) (hd6 : d6 = k + 7) (hn : k + 7 < n)
    (hj : (ops[j]?).bind (·.dst) = some d0)
    (hf : ∀ g w, (Instr.fieldAt S (.pointer (some ⟨g, 0, none⟩)) f).run P w = .ok (.pointer (some ⟨g, off, none⟩)) w)
    (ha : (Instr.loadAt T (.pointer (some ⟨ga, off, none⟩))).run P w = .ok va w) (hb : (Instr.loadAt T (.pointer (some ⟨gb, off, none⟩))).run P w = .ok vb w)
    (hq : (do eqGuard .eql T (.tmp d2) (.tmp d4) va vb; binOp .eql T va vb : Sem Value).run P w = .ok (.bool e) w)
    (h : ∀ a', Fr a' n ga gb d6 (c && e) → wpList P ops Q rest a' w) :
    wpList P ops Q (⟨some d0, .move (.tmp k), y0, p0, f0, none⟩ :: ⟨some d1, .fieldAddr S (.tmp 2) f, y1, p1, f1, some (j, true)⟩ :: ⟨some d2, .load T (.tmp d1), y2, p2, f2, some (j, true)⟩ ::
      ⟨some d3, .fieldAddr S (.tmp 3) f, y3, p3, f3, some (j, true)⟩ :: ⟨some d4, .load T (.tmp d3), y4, p4, f4, some (j, true)⟩ ::
      ⟨some d5, .binOp .eql T (.tmp d2) (.tmp d4) T', y5, p5, f5, some (j, true)⟩ :: ⟨some d6, .pick (.tmp d0) (.tmp d5) (.const (.bool false)), y6, p6, f6, none⟩ :: rest) a w := by
  have run1 : ∀ (v : Value), (pure (.value v) : Sem Next).run P w = .ok (.value v) w := fun v => rfl
  refine wpList_go (wanted_none rfl _) d0 rfl (.bool c) w (by rw [← hF.tk]; rfl) ?_
  have F0 := hF.res d0 (by omega) (by omega) c
  generalize a.put (some d0) (.bool c) = a0 at F0
  have pick : ∀ (a5 : Act) (ee : Bool), Fr a5 n ga gb d0 c → a5.eval (.tmp d5) = .bool ee ∨ (c = false) → (c = true → ee = e) →
      wpList P ops Q (⟨some d6, .pick (.tmp d0) (.tmp d5) (.const (.bool false)), y6, p6, f6, none⟩ :: rest) a5 w := by
    intro a5 ee F5 h5 hee
    refine wpList_go (wanted_none rfl _) d6 rfl (.bool (c && e)) w ?_ (h _ (F5.res d6 (by omega) (by omega) (c && e)))
    unfold execOp
    simp only [F5.tk]
    cases c with
    | false => rfl
    | true =>
      rcases h5 with h5 | h5
      · rw [h5, hee rfl]
        rfl
      · cases h5
  cases c with
  | false =>
    have wf : ∀ (aa : Act) (o : Oper), o.guard = some (j, true) → Fr aa n ga gb d0 false → Region.wanted o (yielded ops aa.tmps) = false := fun aa o ho hFF => wanted_of ho (yielded_of hj hFF.tk)
    have F1 := F0.put d1 (by omega) (by omega) undef
    have F2 := F1.put d2 (by omega) (by omega) undef
    have F3 := F2.put d3 (by omega) (by omega) undef
    have F4 := F3.put d4 (by omega) (by omega) undef
    have F5 := F4.put d5 (by omega) (by omega) undef
    refine wpList_off (wf _ _ rfl F0) d1 rfl (wpList_off (wf _ _ rfl F1) d2 rfl (wpList_off (wf _ _ rfl F2) d3 rfl (wpList_off (wf _ _ rfl F3) d4 rfl (wpList_off (wf _ _ rfl F4) d5 rfl ?_))))
    exact pick _ e F5 (.inr rfl) (fun h => rfl)
  | true =>
    have wt : ∀ (aa : Act) (o : Oper), o.guard = some (j, true) → Fr aa n ga gb d0 true → Region.wanted o (yielded ops aa.tmps) = true := fun aa o ho hFF => wanted_of ho (yielded_of hj hFF.tk)
    have F1 := F0.put d1 (by omega) (by omega) (.pointer (some ⟨ga, off, none⟩))
    have e1 : (a0.put (some d1) (.pointer (some ⟨ga, off, none⟩))).eval (.tmp d1) = _ := Act.eval_put_same _ _ _ (by rw [F0.sz]; omega)
    refine wpList_go (wt _ _ rfl F0) d1 rfl (.pointer (some ⟨ga, off, none⟩)) w ?_ ?_
    · unfold execOp
      simp only [F0.t2, Sem.run_bind, hf, Result.andThen_ok, Sem.run_pure]
    generalize a0.put (some d1) (.pointer (some ⟨ga, off, none⟩)) = a1 at F1 e1
    have F2 := F1.put d2 (by omega) (by omega) va
    have e2 : (a1.put (some d2) va).eval (.tmp d2) = _ := Act.eval_put_same _ _ _ (by rw [F1.sz]; omega)
    refine wpList_go (wt _ _ rfl F1) d2 rfl va w ?_ ?_
    · unfold execOp
      simp only [e1, Sem.run_bind, ha, Result.andThen_ok, Sem.run_pure]
    generalize a1.put (some d2) va = a2 at F2 e2
    have F3 := F2.put d3 (by omega) (by omega) (.pointer (some ⟨gb, off, none⟩))
    have e3 : (a2.put (some d3) (.pointer (some ⟨gb, off, none⟩))).eval (.tmp d3) = _ := Act.eval_put_same _ _ _ (by rw [F2.sz]; omega)
    have e32 : (a2.put (some d3) (.pointer (some ⟨gb, off, none⟩))).eval (.tmp d2) = va := by rw [Act.eval_put_ne _ _ _ _ (by omega), e2]
    refine wpList_go (wt _ _ rfl F2) d3 rfl (.pointer (some ⟨gb, off, none⟩)) w ?_ ?_
    · unfold execOp
      simp only [F2.t3, Sem.run_bind, hf, Result.andThen_ok, Sem.run_pure]
    generalize a2.put (some d3) (.pointer (some ⟨gb, off, none⟩)) = a3 at F3 e3 e32
    have F4 := F3.put d4 (by omega) (by omega) vb
    have e4 : (a3.put (some d4) vb).eval (.tmp d4) = _ := Act.eval_put_same _ _ _ (by rw [F3.sz]; omega)
    have e42 : (a3.put (some d4) vb).eval (.tmp d2) = va := by rw [Act.eval_put_ne _ _ _ _ (by omega), e32]
    refine wpList_go (wt _ _ rfl F3) d4 rfl vb w ?_ ?_
    · unfold execOp
      simp only [e3, Sem.run_bind, hb, Result.andThen_ok, Sem.run_pure]
    generalize a3.put (some d4) vb = a4 at F4 e4 e42
    have F5 := F4.put d5 (by omega) (by omega) (.bool e)
    refine wpList_go (wt _ _ rfl F4) d5 rfl (.bool e) w ?_ ?_
    · unfold execOp
      rw [Sem.run_bind] at hq
      simp only [e42, e4, Sem.run_bind, hq, Result.andThen_ok, Sem.run_pure]
    exact pick _ e F5 (.inl (Act.eval_put_same _ _ _ (by rw [F4.sz]; omega))) (fun _ => rfl)

theorem wpList_linkC {fn : FuncId} {ats : Array TypeId} (hF : Fr a n ga gb k c) (hk : 3 < k) (hd0 : d0 = k + 1) (hd1 : d1 = k + 2) (hd2 : d2 = k + 3) (hd3 : d3 = k + 4) (hd4 : d4 = k + 5) (hd5 : d5 = k + 6) (hd6 : d6 = k + 7) (hn : k + 7 < n)
    (hj : (ops[j]?).bind (·.dst) = some d0)
    (hf : ∀ g w, (Instr.fieldAt S (.pointer (some ⟨g, 0, none⟩)) f).run P w = .ok (.pointer (some ⟨g, off, none⟩)) w)
    (ha : (Instr.loadAt T (.pointer (some ⟨ga, off, none⟩))).run P w = .ok va w) (hb : (Instr.loadAt T (.pointer (some ⟨gb, off, none⟩))).run P w = .ok vb w)
    (hen : ∀ (args : Array Value) (w : World), (callFunc fn args).run P w = .ok (.enter fn args) w)
    (hq : Calls P fn #[va, vb] w fun r w' => r = .returned (.bool e) ∧ Below w.heap.size w w')
    (h : ∀ a' w', Fr a' n ga gb d6 (c && e) → Below w.heap.size w w' → wpList P ops Q rest a' w') :
    wpList P ops Q (⟨some d0, .move (.tmp k), y0, p0, f0, none⟩ :: ⟨some d1, .fieldAddr S (.tmp 2) f, y1, p1, f1, some (j, true)⟩ :: ⟨some d2, .load T (.tmp d1), y2, p2, f2, some (j, true)⟩ ::
      ⟨some d3, .fieldAddr S (.tmp 3) f, y3, p3, f3, some (j, true)⟩ :: ⟨some d4, .load T (.tmp d3), y4, p4, f4, some (j, true)⟩ ::
      ⟨some d5, .call { callee := .value (.func fn), args := #[.tmp d2, .tmp d4], argTypes := ats }, y5, p5, f5, some (j, true)⟩ :: ⟨some d6, .pick (.tmp d0) (.tmp d5) (.const (.bool false)), y6, p6, f6, none⟩ :: rest) a w := by
  have hw0 : Below w.heap.size w w := Below.refl _ _
  obtain ⟨w0, hw0e⟩ : ∃ w0 : World, w0 = w := ⟨_, rfl⟩
  rw [← hw0e] at hq h hw0
  refine wpList_go (wanted_none rfl _) d0 rfl (.bool c) w (by rw [← hF.tk]; rfl) ?_
  have F0 := hF.res d0 (by omega) (by omega) c
  generalize a.put (some d0) (.bool c) = a0 at F0
  have pick : ∀ (a5 : Act) (w : World) (ee : Bool) (hB : Below w0.heap.size w0 w), Fr a5 n ga gb d0 c → a5.eval (.tmp d5) = .bool ee ∨ (c = false) → (c = true → ee = e) →
      wpList P ops Q (⟨some d6, .pick (.tmp d0) (.tmp d5) (.const (.bool false)), y6, p6, f6, none⟩ :: rest) a5 w := by
    intro a5 w ee hB F5 h5 hee
    refine wpList_go (wanted_none rfl _) d6 rfl (.bool (c && e)) w ?_ (h _ _ (F5.res d6 (by omega) (by omega) (c && e)) hB)
    unfold execOp
    simp only [F5.tk]
    cases c with
    | false => rfl
    | true =>
      rcases h5 with h5 | h5
      · rw [h5, hee rfl]
        rfl
      · cases h5
  cases c with
  | false =>
    have wf : ∀ (aa : Act) (o : Oper), o.guard = some (j, true) → Fr aa n ga gb d0 false → Region.wanted o (yielded ops aa.tmps) = false := fun aa o ho hFF => wanted_of ho (yielded_of hj hFF.tk)
    have F1 := F0.put d1 (by omega) (by omega) undef
    have F2 := F1.put d2 (by omega) (by omega) undef
    have F3 := F2.put d3 (by omega) (by omega) undef
    have F4 := F3.put d4 (by omega) (by omega) undef
    have F5 := F4.put d5 (by omega) (by omega) undef
    refine wpList_off (wf _ _ rfl F0) d1 rfl (wpList_off (wf _ _ rfl F1) d2 rfl (wpList_off (wf _ _ rfl F2) d3 rfl (wpList_off (wf _ _ rfl F3) d4 rfl (wpList_off (wf _ _ rfl F4) d5 rfl ?_))))
    exact pick _ w e (by rw [← hw0e]; exact hw0) F5 (.inr rfl) (fun h => rfl)
  | true =>
    have wt : ∀ (aa : Act) (o : Oper), o.guard = some (j, true) → Fr aa n ga gb d0 true → Region.wanted o (yielded ops aa.tmps) = true := fun aa o ho hFF => wanted_of ho (yielded_of hj hFF.tk)
    have F1 := F0.put d1 (by omega) (by omega) (.pointer (some ⟨ga, off, none⟩))
    have e1 : (a0.put (some d1) (.pointer (some ⟨ga, off, none⟩))).eval (.tmp d1) = _ := Act.eval_put_same _ _ _ (by rw [F0.sz]; omega)
    refine wpList_go (wt _ _ rfl F0) d1 rfl (.pointer (some ⟨ga, off, none⟩)) w ?_ ?_
    · unfold execOp
      simp only [F0.t2, Sem.run_bind, hf, Result.andThen_ok, Sem.run_pure]
    generalize a0.put (some d1) (.pointer (some ⟨ga, off, none⟩)) = a1 at F1 e1
    have F2 := F1.put d2 (by omega) (by omega) va
    have e2 : (a1.put (some d2) va).eval (.tmp d2) = _ := Act.eval_put_same _ _ _ (by rw [F1.sz]; omega)
    refine wpList_go (wt _ _ rfl F1) d2 rfl va w ?_ ?_
    · unfold execOp
      simp only [e1, Sem.run_bind, ha, Result.andThen_ok, Sem.run_pure]
    generalize a1.put (some d2) va = a2 at F2 e2
    have F3 := F2.put d3 (by omega) (by omega) (.pointer (some ⟨gb, off, none⟩))
    have e3 : (a2.put (some d3) (.pointer (some ⟨gb, off, none⟩))).eval (.tmp d3) = _ := Act.eval_put_same _ _ _ (by rw [F2.sz]; omega)
    have e32 : (a2.put (some d3) (.pointer (some ⟨gb, off, none⟩))).eval (.tmp d2) = va := by rw [Act.eval_put_ne _ _ _ _ (by omega), e2]
    refine wpList_go (wt _ _ rfl F2) d3 rfl (.pointer (some ⟨gb, off, none⟩)) w ?_ ?_
    · unfold execOp
      simp only [F2.t3, Sem.run_bind, hf, Result.andThen_ok, Sem.run_pure]
    generalize a2.put (some d3) (.pointer (some ⟨gb, off, none⟩)) = a3 at F3 e3 e32
    have F4 := F3.put d4 (by omega) (by omega) vb
    have e4 : (a3.put (some d4) vb).eval (.tmp d4) = _ := Act.eval_put_same _ _ _ (by rw [F3.sz]; omega)
    have e42 : (a3.put (some d4) vb).eval (.tmp d2) = va := by rw [Act.eval_put_ne _ _ _ _ (by omega), e32]
    refine wpList_go (wt _ _ rfl F3) d4 rfl vb w ?_ ?_
    · unfold execOp
      simp only [e3, Sem.run_bind, hb, Result.andThen_ok, Sem.run_pure]
    generalize a3.put (some d4) vb = a4 at F4 e4 e42
    have F5 := F4.put d5 (by omega) (by omega) (.bool e)
    refine wpList_enter (wt _ _ rfl F4) d5 rfl fn #[va, vb] ?_ (fun v w' => v = .bool e ∧ Below w0.heap.size w0 w') (by rw [← hw0e]; exact hq.mono fun _ _ h => ⟨_, h.1, rfl, h.2⟩) ?_
    · rw [execOp_call_go, hen]
      simp [e42, e4]
    rintro v w' ⟨rfl, hB⟩
    exact pick _ w' e hB F5 (.inl (Act.eval_put_same _ _ _ (by rw [F4.sz]; omega))) (fun _ => rfl)

/-- the first link. -/
theorem wpList_link0 (hsz : a.tmps.size = n) (hdf : a.defers = []) (ht2 : a.eval (.tmp 2) = .pointer (some ⟨ga, 0, none⟩)) (ht3 : a.eval (.tmp 3) = .pointer (some ⟨gb, 0, none⟩))
    (hk : 3 < d1) (hd2 : d2 = d1 + 1) (hd3 : d3 = d1 + 2) (hd4 : d4 = d1 + 3) (hd5 : d5 = d1 + 4) (hn : d1 + 4 < n)
    (hf : ∀ g w, (Instr.fieldAt S (.pointer (some ⟨g, 0, none⟩)) f).run P w = .ok (.pointer (some ⟨g, off, none⟩)) w)
    (ha : (Instr.loadAt T (.pointer (some ⟨ga, off, none⟩))).run P w = .ok va w) (hb : (Instr.loadAt T (.pointer (some ⟨gb, off, none⟩))).run P w = .ok vb w)
    (hq : (do eqGuard .eql T (.tmp d2) (.tmp d4) va vb; binOp .eql T va vb : Sem Value).run P w = .ok (.bool e) w)
    (h : ∀ a', Fr a' n ga gb d5 e → wpList P ops Q rest a' w) :
    wpList P ops Q (⟨some d1, .fieldAddr S (.tmp 2) f, y1, p1, f1, none⟩ :: ⟨some d2, .load T (.tmp d1), y2, p2, f2, none⟩ ::
      ⟨some d3, .fieldAddr S (.tmp 3) f, y3, p3, f3, none⟩ :: ⟨some d4, .load T (.tmp d3), y4, p4, f4, none⟩ ::
      ⟨some d5, .binOp .eql T (.tmp d2) (.tmp d4) T', y5, p5, f5, none⟩ :: rest) a w := by
  obtain ⟨aa, haa⟩ : ∃ aa : Act, aa = a.put (some d1) (.bool true) := ⟨_, rfl⟩
  have FF : Fr aa n ga gb d1 true := by
    rw [haa]
    exact ⟨by rw [Act.size_put, hsz], by rw [Act.defers_put', hdf], by rw [Act.eval_put_ne _ _ _ _ (by omega), ht2], by rw [Act.eval_put_ne _ _ _ _ (by omega), ht3], Act.eval_put_same _ _ _ (by rw [hsz]; omega)⟩
  have z1 : (a.put (some d1) (.pointer (some ⟨ga, off, none⟩))).tmps.size = n := by rw [Act.size_put, hsz]
  have g1 : (a.put (some d1) (.pointer (some ⟨ga, off, none⟩))).defers = [] := by rw [Act.defers_put', hdf]
  have u1 : (a.put (some d1) (.pointer (some ⟨ga, off, none⟩))).eval (.tmp 2) = _ := (Act.eval_put_ne _ _ _ _ (by omega)).trans ht2
  have v1 : (a.put (some d1) (.pointer (some ⟨ga, off, none⟩))).eval (.tmp 3) = _ := (Act.eval_put_ne _ _ _ _ (by omega)).trans ht3
  have e1 : (a.put (some d1) (.pointer (some ⟨ga, off, none⟩))).eval (.tmp d1) = _ := Act.eval_put_same _ _ _ (by rw [hsz]; omega)
  refine wpList_go (wanted_none rfl _) d1 rfl (.pointer (some ⟨ga, off, none⟩)) w ?_ ?_
  · unfold execOp
    simp only [ht2, Sem.run_bind, hf, Result.andThen_ok, Sem.run_pure]
  generalize a.put (some d1) (.pointer (some ⟨ga, off, none⟩)) = a1 at *
  have z2 : (a1.put (some d2) va).tmps.size = n := by rw [Act.size_put, z1]
  have g2 : (a1.put (some d2) va).defers = [] := by rw [Act.defers_put', g1]
  have u2 : (a1.put (some d2) va).eval (.tmp 2) = _ := (Act.eval_put_ne _ _ _ _ (by omega)).trans u1
  have v2 : (a1.put (some d2) va).eval (.tmp 3) = _ := (Act.eval_put_ne _ _ _ _ (by omega)).trans v1
  have e2 : (a1.put (some d2) va).eval (.tmp d2) = _ := Act.eval_put_same _ _ _ (by rw [z1]; omega)
  refine wpList_go (wanted_none rfl _) d2 rfl va w ?_ ?_
  · unfold execOp
    simp only [e1, Sem.run_bind, ha, Result.andThen_ok, Sem.run_pure]
  generalize a1.put (some d2) va = a2 at *
  have z3 : (a2.put (some d3) (.pointer (some ⟨gb, off, none⟩))).tmps.size = n := by rw [Act.size_put, z2]
  have g3 : (a2.put (some d3) (.pointer (some ⟨gb, off, none⟩))).defers = [] := by rw [Act.defers_put', g2]
  have u3 : (a2.put (some d3) (.pointer (some ⟨gb, off, none⟩))).eval (.tmp 2) = _ := (Act.eval_put_ne _ _ _ _ (by omega)).trans u2
  have v3 : (a2.put (some d3) (.pointer (some ⟨gb, off, none⟩))).eval (.tmp 3) = _ := (Act.eval_put_ne _ _ _ _ (by omega)).trans v2
  have e3 : (a2.put (some d3) (.pointer (some ⟨gb, off, none⟩))).eval (.tmp d3) = _ := Act.eval_put_same _ _ _ (by rw [z2]; omega)
  have e32 : (a2.put (some d3) (.pointer (some ⟨gb, off, none⟩))).eval (.tmp d2) = va := (Act.eval_put_ne _ _ _ _ (by omega)).trans e2
  refine wpList_go (wanted_none rfl _) d3 rfl (.pointer (some ⟨gb, off, none⟩)) w ?_ ?_
  · unfold execOp
    simp only [v2, Sem.run_bind, hf, Result.andThen_ok, Sem.run_pure]
  generalize a2.put (some d3) (.pointer (some ⟨gb, off, none⟩)) = a3 at *
  have z4 : (a3.put (some d4) vb).tmps.size = n := by rw [Act.size_put, z3]
  have g4 : (a3.put (some d4) vb).defers = [] := by rw [Act.defers_put', g3]
  have u4 : (a3.put (some d4) vb).eval (.tmp 2) = _ := (Act.eval_put_ne _ _ _ _ (by omega)).trans u3
  have v4 : (a3.put (some d4) vb).eval (.tmp 3) = _ := (Act.eval_put_ne _ _ _ _ (by omega)).trans v3
  have e4 : (a3.put (some d4) vb).eval (.tmp d4) = _ := Act.eval_put_same _ _ _ (by rw [z3]; omega)
  have e42 : (a3.put (some d4) vb).eval (.tmp d2) = va := (Act.eval_put_ne _ _ _ _ (by omega)).trans e32
  refine wpList_go (wanted_none rfl _) d4 rfl vb w ?_ ?_
  · unfold execOp
    simp only [e3, Sem.run_bind, hb, Result.andThen_ok, Sem.run_pure]
  generalize a3.put (some d4) vb = a4 at *
  refine wpList_go (wanted_none rfl _) d5 rfl (.bool e) w ?_ ?_
  · unfold execOp
    rw [Sem.run_bind] at hq
    simp only [e42, e4, Sem.run_bind, hq, Result.andThen_ok, Sem.run_pure]
  refine h _ ⟨by rw [Act.size_put, z4], by rw [Act.defers_put', g4], (Act.eval_put_ne _ _ _ _ (by omega)).trans u4, (Act.eval_put_ne _ _ _ _ (by omega)).trans v4, Act.eval_put_same _ _ _ (by rw [z4]; omega)⟩
end

end Go.Proofs.YtkcdkjpmbjcmdaaDoor

/-
  A region that draws its order, walked by an invariant: whatever may come up keeps it; no order is gone through by itself.
-/
namespace Go.Proofs.YtkcdkjpmbjcmdaaDoor
open Go.RowKit

section
variable {P : Program} {md : Region.Mode} {ops : Array Oper} {Q : Exit → Act → World → Prop}
theorem all_listed (hback : ∀ (i : Nat) (o : Oper), ops[i]? = some o → ∀ e ∈ o.after, Region.binds md e = true → e.on < i) {listed : Array Bool} (hs : listed.size = ops.size) (h : Region.ready md ops listed = []) :
    ∀ i, i < ops.size → listed.getD i false = true := by
  intro i
  induction i using Nat.strongRecOn with
  | ind i ih =>
    intro hi
    rcases hb : listed.getD i false with _ | _
    · exfalso
      have hm : i ∈ Region.ready md ops listed := by
        refine mem_ready.2 ⟨?_, ops[i], Array.getElem?_eq_getElem hi, fun e he hbd => ?_⟩
        · have hi' : i < listed.size := by omega
          simp only [Array.getD_eq_getD_getElem?, Array.getElem?_eq_getElem hi', Option.getD_some] at hb ⊢
          exact hb
        · have := hback i ops[i] (Array.getElem?_eq_getElem hi) e he hbd
          exact ih e.on this (by omega)
      rw [h] at hm
      cases hm
    · rfl
theorem count_set (l : List Bool) : ∀ i, l[i]? = some false → (l.set i true).count false + 1 = l.count false := by
  induction l with
  | nil => intro i h; simp at h
  | cons x l ih =>
    intro i h
    cases i with
    | zero =>
      have hx : x = false := by simpa using h
      subst hx
      simp
    | succ i =>
      have := ih i (by simpa using h)
      cases x <;> simp <;> omega

theorem wpAny_inv (I : Array Bool → Act → World → Prop) (hback : ∀ (i : Nat) (o : Oper), ops[i]? = some o → ∀ e ∈ o.after, Region.binds md e = true → e.on < i)
    (hstep : ∀ (listed : Array Bool) (a : Act) (w : World) (i : Nat) (o : Oper), listed.size = ops.size → ops[i]? = some o → (∀ e ∈ o.after, Region.binds md e = true → listed.getD e.on false = true) → I listed a w →
      wpOp P ops Q i (fun a' w' => I (listed.setIfInBounds i true) a' w') a w)
    (hfin : ∀ (listed : Array Bool) (a : Act) (w : World), (∀ i, i < ops.size → listed.getD i false = true) → I listed a w → Q .normal a w) :
    ∀ (fuel : Nat) (listed : Array Bool) (a : Act) (w : World), listed.size = ops.size → listed.toList.count false ≤ fuel → I listed a w → wpAny P md ops Q fuel listed a w := by
  intro fuel
  induction fuel with
  | zero =>
    intro listed a w hs hc hI
    have hnil : Region.ready md ops listed = [] := by
      rcases hr : Region.ready md ops listed with _ | ⟨i, rs⟩
      · rfl
      · exfalso
        have hm : i ∈ Region.ready md ops listed := by rw [hr]; exact List.mem_cons_self
        obtain ⟨h0, o, ho, _⟩ := mem_ready.1 hm
        have hi : i < listed.size := by
          have := (Array.getElem?_eq_some_iff.1 ho).1
          omega
        have h1 : listed.toList[i]? = some false := by
          simp only [Array.getD_eq_getD_getElem?, Array.getElem?_eq_getElem hi, Option.getD_some] at h0
          simp [hi, h0]
        have := count_set _ _ h1
        omega
    exact ⟨hnil, hfin listed a w (all_listed hback hs hnil) hI⟩
  | succ fuel ih =>
    intro listed a w hs hc hI
    refine ⟨fun hnil => hfin listed a w (all_listed hback hs hnil) hI, fun i hm => ?_⟩
    obtain ⟨h0, o, ho, hd⟩ := mem_ready.1 hm
    have hi : i < listed.size := by
      have := (Array.getElem?_eq_some_iff.1 ho).1
      omega
    have h1 : listed.toList[i]? = some false := by
      simp only [Array.getD_eq_getD_getElem?, Array.getElem?_eq_getElem hi, Option.getD_some] at h0
      simp [hi, h0]
    have hcs := count_set _ _ h1
    refine wpOp_mono (fun a' w' hI' => ih _ a' w' (by simpa using hs) ?_ hI') (hstep listed a w i o hs ho hd hI)
    rw [Array.toList_setIfInBounds]
    omega

theorem wp_region_inv {id : Nat} {a : Act} {w : World} (hm : P.follows .mixedOrders = true) (I : Array Bool → Act → World → Prop) (hback : ∀ (i : Nat) (o : Oper), ops[i]? = some o → ∀ e ∈ o.after, Region.binds .any e = true → e.on < i)
    (hstep : ∀ (listed : Array Bool) (a : Act) (w : World) (i : Nat) (o : Oper), listed.size = ops.size → ops[i]? = some o → (∀ e ∈ o.after, Region.binds .any e = true → listed.getD e.on false = true) → I listed a w →
      wpOp P ops Q i (fun a' w' => I (listed.setIfInBounds i true) a' w') a w)
    (hfin : ∀ (listed : Array Bool) (a : Act) (w : World), (∀ i, i < ops.size → listed.getD i false = true) → I listed a w → Q .normal a w)
    (h0 : I (Array.replicate ops.size false) a w.drew) : (Code.region id ops true).wp P Q a w := by
  refine wp_region_any hm (wpAny_inv I hback hstep hfin ops.size _ a _ (by simp) ?_ h0)
  simp

theorem wpOp_go {K : Act → World → Prop} {a : Act} {w : World} {i : Nat} {o : Oper} (hi : ops[i]? = some o) (hw : Region.wanted o (yielded ops a.tmps) = true) (d : Nat) (hd : o.dst = some d) (v : Value) (w' : World) (hrun : (execOp a.eval o).run P w = .ok (.value v) w')
    (h : K (a.put (some d) v) w') : wpOp P ops Q i K a w := by
  simp only [wpOp, hi]
  rw [if_pos hw]
  left
  unfold Oper.wp
  rw [hrun, Oper.upon_value, hd]
  exact h
theorem wpOp_do {K : Act → World → Prop} {a : Act} {w : World} {i : Nat} {o : Oper} (hi : ops[i]? = some o) (hw : Region.wanted o (yielded ops a.tmps) = true) (hd : o.dst = none) (w' : World) (hrun : (execOp a.eval o).run P w = .ok .skip w')
    (h : K a w') : wpOp P ops Q i K a w := by
  simp only [wpOp, hi]
  rw [if_pos hw]
  left
  unfold Oper.wp
  rw [hrun, Oper.upon_skip, hd]
  exact h
theorem wpOp_off {K : Act → World → Prop} {a : Act} {w : World} {i : Nat} {o : Oper} (hi : ops[i]? = some o) (hw : Region.wanted o (yielded ops a.tmps) = false) (h : K (a.put o.dst undef) w) : wpOp P ops Q i K a w := by
  simp only [wpOp, hi]
  rw [if_neg (by rw [hw]; decide)]
  exact h
theorem wpOp_enter {K : Act → World → Prop} {a : Act} {w : World} {i : Nat} {o : Oper} (hi : ops[i]? = some o) (hw : Region.wanted o (yielded ops a.tmps) = true) (d : Nat) (hd : o.dst = some d) (f : FuncId) (args : Array Value)
    (hrun : (execOp a.eval o).run P w = .ok (.enter f args) w) (R : Value → World → Prop) (hc : Calls P f args w fun e w' => ∃ v, e = .returned v ∧ R v w') (h : ∀ v w', R v w' → K (a.put (some d) v) w') : wpOp P ops Q i K a w := by
  simp only [wpOp, hi]
  rw [if_pos hw]
  left
  unfold Oper.wp
  rw [hrun, Oper.upon_enter]
  refine hc.mono ?_
  rintro e w' ⟨v, rfl, hR⟩
  rw [hd]
  exact h v w' hR
end

/-- what is known in the middle of a region that draws: slots that it leaves alone (fixed), and what each operation that has come up has put into its slot (vals: operation, slot, value). -/
structure Inv (n : Nat) (fixed : List (Nat × Value)) (vals : List (Nat × Nat × Value)) (Wp : World → Prop) (listed : Array Bool) (a : Act) (w : World) : Prop where
  sz : a.tmps.size = n
  df : a.defers = []
  fx : ∀ f ∈ fixed, a.eval (.tmp f.1) = f.2
  vs : ∀ t ∈ vals, listed.getD t.1 false = true → a.eval (.tmp t.2.1) = t.2.2
  wp : Wp w
/-- a table that fits: slots in the frame, each written once, none of the fixed ones. -/
def fits (n : Nat) (fixed : List (Nat × Value)) (vals : List (Nat × Nat × Value)) : Bool :=
  vals.all (fun t => decide (t.2.1 < n) && fixed.all (fun f => f.1 != t.2.1)) && (vals.map (·.2.1)).Nodup && (vals.map (·.1)).Nodup
theorem getD_set {listed : Array Bool} {i j : Nat} (h : (listed.setIfInBounds i true).getD j false = true) : j = i ∨ listed.getD j false = true := by
  by_cases e : i = j
  · exact .inl e.symm
  · rw [getD_set_ne false e] at h
    exact .inr h
theorem nodup_eq {α : Type} {f : α → Nat} : ∀ {l : List α}, (l.map f).Nodup → ∀ x ∈ l, ∀ y ∈ l, f x = f y → x = y
  | [], _, _, h, _, _, _ => by cases h
  | z :: l, hn, x, hx, y, hy, e => by
    rw [List.map_cons, List.nodup_cons] at hn
    rcases List.mem_cons.1 hx with hx1 | hx1
    · rcases List.mem_cons.1 hy with hy1 | hy1
      · rw [hx1, hy1]
      · exact absurd (show f z ∈ l.map f by rw [← hx1, e]; exact List.mem_map_of_mem hy1) hn.1
    · rcases List.mem_cons.1 hy with hy1 | hy1
      · exact absurd (show f z ∈ l.map f by rw [← hy1, ← e]; exact List.mem_map_of_mem hx1) hn.1
      · exact nodup_eq hn.2 x hx1 y hy1 e
theorem Inv.put {n : Nat} {fixed : List (Nat × Value)} {vals : List (Nat × Nat × Value)} {Wp : World → Prop} {listed : Array Bool} {a : Act} {w w' : World} (h : Inv n fixed vals Wp listed a w) (hf : fits n fixed vals = true)
    (i d : Nat) (v : Value) (ht : (i, d, v) ∈ vals) (hw : Wp w') : Inv n fixed vals Wp (listed.setIfInBounds i true) (a.put (some d) v) w' := by
  simp only [fits, Bool.and_eq_true, List.all_eq_true, decide_eq_true_eq, bne_iff_ne] at hf
  obtain ⟨⟨hf, hn⟩, hm⟩ := hf
  refine ⟨by rw [Act.size_put, h.sz], by rw [Act.defers_put', h.df], fun f hff => ?_, fun t htt hl => ?_, hw⟩
  · rw [Act.eval_put_ne _ _ _ _ (Ne.symm ((hf _ ht).2 f hff))]
    exact h.fx f hff
  · by_cases e : d = t.2.1
    · have : t = (i, d, v) := nodup_eq hn t htt _ ht e.symm
      subst this
      exact Act.eval_put_same _ _ _ (by rw [h.sz]; exact (hf _ ht).1)
    · rw [Act.eval_put_ne _ _ _ _ e]
      rcases getD_set hl with e2 | hl
      · exact absurd (congrArg (·.2.1) (nodup_eq hm t htt _ ht e2)).symm e
      · exact h.vs t htt hl
theorem Inv.mute {n : Nat} {fixed : List (Nat × Value)} {vals : List (Nat × Nat × Value)} {Wp : World → Prop} {listed : Array Bool} {a : Act} {w w' : World} (h : Inv n fixed vals Wp listed a w)
    (i : Nat) (hi : ∀ t ∈ vals, t.1 ≠ i) (hw : Wp w') : Inv n fixed vals Wp (listed.setIfInBounds i true) a w' :=
  ⟨h.sz, h.df, h.fx, fun t ht hl => by
    rcases getD_set hl with e | hl
    · exact absurd e (hi t ht)
    · exact h.vs t ht hl, hw⟩
theorem pick_op {l : List Oper} {i : Nat} {o p : Oper} (h : l.toArray[i]? = some o) (hp : l[i]? = some p) : p = o := by
  rw [List.getElem?_toArray, hp] at h
  exact Option.some.inj h
theorem ma {α : Type} {l : List α} (i : Nat) {t : α} (h : l[i]? = some t) : t ∈ l := List.mem_of_getElem? h
end Go.Proofs.YtkcdkjpmbjcmdaaDoor

/-
  'return o, f(p)' in a region that draws: the result's struct read and stored as it is, and a call.
-/
namespace Go.Proofs.YtkcdkjpmbjcmdaaDoor
open Go.RowKit

/-- two structs' blocks above B, below which all is as in W. -/
structure Two (W : World) (B g1 g2 : Nat) (L1 L2 : List Value) (w : World) : Prop where
  c1 : Cells w g1 L1
  c2 : Cells w g2 L2
  lt1 : g1 < w.heap.size
  lt2 : g2 < w.heap.size
  ne : g1 ≠ g2
  b1 : B ≤ g1
  b2 : B ≤ g2
  bel : Below B W w
theorem Two.call {W w w' : World} {B g1 g2 : Nat} {L1 L2 : List Value} (h : Two W B g1 g2 L1 L2 w) (hb : Below w.heap.size w w') : Two W B g1 g2 L1 L2 w' :=
  ⟨h.c1.below hb h.lt1, h.c2.below hb h.lt2, Nat.lt_of_lt_of_le h.lt1 hb.size, Nat.lt_of_lt_of_le h.lt2 hb.size, h.ne, h.b1, h.b2, h.bel.trans (hb.mono (Nat.le_of_lt (Nat.lt_of_le_of_lt h.b1 h.lt1)))⟩
theorem Two.drew {W w : World} {B g1 g2 : Nat} {L1 L2 : List Value} (h : Two W B g1 g2 L1 L2 w) : Two W B g1 g2 L1 L2 w.drew := h.call (Below.drew (Below.refl _ _))
theorem Two.store {W w w' : World} {B g1 g2 : Nat} {L1 L2 L : List Value} (h : Two W B g1 g2 L1 L2 w) (hg : w.grownBy w' (some g2)) (hs : w'.heap.size = w.heap.size) (hC : Cells w' g2 L) : Two W B g1 g2 L1 L w' :=
  ⟨h.c1.kept hg h.lt1 (fun e => h.ne (by injection e)), hC, by rw [hs]; exact h.lt1, by rw [hs]; exact h.lt2, h.ne, h.b1, h.b2,
    h.bel.grown hg (Nat.le_of_lt (Nat.lt_of_le_of_lt h.b1 h.lt1)) (fun k hk => by injection hk with hk; rw [← hk]; exact h.b2)⟩

section
variable {P : Program} {ops : Array Oper} {Q : Exit → Act → World → Prop} {K : Act → World → Prop} {a : Act} {w : World} {i : Nat} {o : Oper}
theorem wpOp_load_cells (hi : ops[i]? = some o) (hw : Region.wanted o (yielded ops a.tmps) = true) (d : Nat) (hd : o.dst = some d) (T : TypeId) (x : Operand) (ho : o.op = .load T x) (g : Nat) (hx : a.eval x = .pointer (some ⟨g, 0, none⟩))
    {l : List Value} (hC : Cells w g l) (du : TypeDesc) (hu : P.underlying T = some du) (hr : du.isRow = true) (n : Nat) (hn : (P.info? T).map (·.size) = some n) (hl : l.length = n) (h : K (a.put (some d) (.agg l.toArray)) w) : wpOp P ops Q i K a w := by
  simp only [wpOp, hi]
  rw [if_pos hw]
  exact .inl (wp_load_mid T x ho g 0 hx l du hC.range hu hr (by rw [hl]; exact hn) (by rw [hd]; exact h))
theorem wpOp_store_cells (hi : ops[i]? = some o) (hw : Region.wanted o (yielded ops a.tmps) = true) (hd : o.dst = none) (T : TypeId) (x y : Operand) (ho : o.op = .store T x y) (g : Nat) (hx : a.eval x = .pointer (some ⟨g, 0, none⟩)) (l : List Value) (hy : a.eval y = .agg l.toArray)
    {l0 : List Value} (hC : Cells w g l0) (n : Nat) (hn : (P.info? T).map (·.size) = some n) (hl0 : l0.length = n) (hl1 : l.length = n) (h1 : l.all (·.oneCell') = true)
    (h : ∀ w', w.grownBy w' (some g) → w'.heap.size = w.heap.size → Cells w' g l → K a w') : wpOp P ops Q i K a w := by
  simp only [wpOp, hi]
  rw [if_pos hw]
  have ht := hC.there
  rw [hl0, ← hl1] at ht
  rw [← hl1] at hn
  refine .inl (wp_store_mid T x y ho g 0 l.toArray hx hy (by simpa using ht) (by simpa using hn) (all_oneCell_toArray fun v hv => List.all_eq_true.1 h1 v hv) ?_)
  obtain ⟨hO, hG⟩ := setCells_only g l 0 w
  rw [hd]
  refine h _ hG hO.size ?_
  intro j v hv
  have hj : j < l.length := (List.getElem?_eq_some_iff.1 hv).1
  have hrr := World.rangeAt_setCells_same w g 0 l ht j v hv
  rw [Nat.zero_add] at hrr
  have hf := (there_frozen l ht j hj).2
  rw [Nat.zero_add] at hf
  exact ⟨hrr, hf⟩
end

theorem none_ran (k i : Nat) : (Array.replicate k false).getD i false = false := by
  rw [Array.getD_eq_getD_getElem?, Array.getElem?_replicate]
  split <;> rfl
end Go.Proofs.YtkcdkjpmbjcmdaaDoor

/-
  'o.f, o.g = p.f, p.g' in a region that draws: fields of one struct stored into another one's.
-/
namespace Go.Proofs.YtkcdkjpmbjcmdaaDoor
open Go.RowKit

theorem wantedf_of {o : Oper} {j : Nat} (h : o.guard = some (j, false)) {y : Nat → Option Bool} {b : Bool} (hy : y j = some b) : Region.wanted o y = !b := by
  simp only [Region.wanted, h, hy]
  cases b <;> rfl
theorem wantedf_undef {o : Oper} {j : Nat} (h : o.guard = some (j, false)) {y : Nat → Option Bool} (hy : y j = none) : Region.wanted o y = false := by
  simp only [Region.wanted, h, hy]
  rfl
theorem yielded_undef {ops : Array Oper} {a : Act} {j d : Nat} (hj : (ops[j]?).bind (·.dst) = some d) (h : a.eval (.tmp d) = undef) : yielded ops a.tmps j = none := by
  simp only [Act.eval, Array.getD_eq_getD_getElem?] at h
  simp only [yielded, hj, Option.bind_some]
  cases e : a.tmps[d]? with
  | none => rfl
  | some v =>
    rw [e, Option.getD_some] at h
    rw [h]
    rfl

theorem Inv.put' {n : Nat} {fixed : List (Nat × Value)} {vals : List (Nat × Nat × Value)} {Wp Wp' : World → Prop} {listed : Array Bool} {a : Act} {w w' : World} (h : Inv n fixed vals Wp listed a w) (hf : fits n fixed vals = true)
    (i d : Nat) (v : Value) (ht : (i, d, v) ∈ vals) (hw : Wp' w') : Inv n fixed vals Wp' (listed.setIfInBounds i true) (a.put (some d) v) w' := by
  have h' : Inv n fixed vals (fun _ => True) listed a w := ⟨h.sz, h.df, h.fx, h.vs, trivial⟩
  have := h'.put (w' := w') hf i d v ht trivial
  exact ⟨this.sz, this.df, this.fx, this.vs, hw⟩
theorem Inv.mute' {n : Nat} {fixed : List (Nat × Value)} {vals : List (Nat × Nat × Value)} {Wp Wp' : World → Prop} {listed : Array Bool} {a : Act} {w w' : World} (h : Inv n fixed vals Wp listed a w)
    (i : Nat) (hi : vals.all (fun t => t.1 != i) = true) (hw : Wp' w') : Inv n fixed vals Wp' (listed.setIfInBounds i true) a w' := by
  have h' : Inv n fixed vals (fun _ => True) listed a w := ⟨h.sz, h.df, h.fx, h.vs, trivial⟩
  have := h'.mute (w' := w') i (fun t ht => by simpa using List.all_eq_true.1 hi t ht) trivial
  exact ⟨this.sz, this.df, this.fx, this.vs, hw⟩
/-- a cell of a list, written if .. -/
def setIf (b : Bool) (j : Nat) (v : Value) (l : List Value) : List Value := if b then l.set j v else l
theorem setIf_ne {b : Bool} {i j : Nat} (h : i ≠ j) (v u : Value) (l : List Value) : (setIf b j v l).set i u = setIf b j v (l.set i u) := by
  unfold setIf
  split
  · rw [List.set_comm _ _ (Ne.symm h)]
  · rfl
theorem setIf_same {b : Bool} (j : Nat) (v : Value) (l : List Value) : (setIf b j v l).set j v = setIf true j v l := by
  unfold setIf
  split
  · rw [List.set_set]; rfl
  · rfl
theorem setIf_length {b : Bool} {j : Nat} {v : Value} {l : List Value} : (setIf b j v l).length = l.length := by
  unfold setIf
  split <;> simp
theorem ran_ne (listed : Array Bool) {i k : Nat} (h : i ≠ k) : (listed.setIfInBounds i true).getD k false = listed.getD k false := getD_set_ne false h
theorem ran_same (listed : Array Bool) {i : Nat} (h : i < listed.size) : (listed.setIfInBounds i true).getD i false = true := by
  simp [h]
theorem nd_ne {l : List Nat} (h : l.Nodup) (i j : Nat) {x y : Nat} (hx : l[i]? = some x) (hy : l[j]? = some y) (hij : i ≠ j) : x ≠ y := by
  intro e
  subst e
  obtain ⟨a, ha⟩ := List.getElem?_eq_some_iff.1 hx
  obtain ⟨b, hb⟩ := List.getElem?_eq_some_iff.1 hy
  have := List.pairwise_iff_getElem.1 h
  rcases Nat.lt_or_ge i j with h1 | h1
  · exact this i j a b h1 (ha.trans hb.symm)
  · exact this j i b a (by omega) (hb.trans ha.symm)
theorem Two.set {W w : World} {B g1 g2 : Nat} {L1 L2 : List Value} (h : Two W B g1 g2 L1 L2 w) (j : Nat) (v : Value) (hj : j < L2.length) : Two W B g1 g2 L1 (L2.set j v) (w.setCell ⟨g2, j, none⟩ v) :=
  h.store (grown_setCell w g2 j v) (size_setCell' _ _ _) (h.c2.set j v hj)
end Go.Proofs.YtkcdkjpmbjcmdaaDoor

/-
  Walking with a frame that is a letter, of which a list of slots is known: laws for each operation; no frame is ever written out.
-/
namespace Go.Proofs.YtkcdkjpmbjcmdaaDoor
open Go.RowKit

theorem gz {o : Oper} {y : Nat → Option Bool} (h : o.guard = none := by rfl) : Region.wanted o y = true := wanted_none h y
theorem nt {P : Program} {ops : Array Oper} {next : Act → World → Prop} {Q : Exit → Act → World → Prop} {a : Act} {w : World} (h : next a w) : wpList P ops (Exit.then next Q) [] a w := wpList_nil h
/-- a slot's value in a list, the newest first. -/
def look : List (Nat × Value) → Nat → Option Value
  | [], _ => none
  | (j, v) :: l, k => bif Nat.beq j k then some v else look l k
/-- an operand's value. -/
def evL (l : List (Nat × Value)) : Operand → Option Value
  | .tmp t => look l t
  | .const v => some v
  | .global g => some (.pointer (some ⟨g, 0, none⟩))
  | .func f => some (.func (.func f) #[] #[])
def evLs (l : List (Nat × Value)) : List Operand → Option (List Value)
  | [] => some []
  | x :: xs => match evL l x, evLs l xs with
    | some v, some vs => some (v :: vs)
    | _, _ => none
structure Has (a : Act) (n : Nat) (l : List (Nat × Value)) : Prop where
  sz : a.tmps.size = n
  df : a.defers = []
  at_ : ∀ k v, look l k = some v → a.eval (.tmp k) = v
def AllEv (a : Act) : List (Nat × Value) → Prop
  | [] => True
  | p :: l => a.eval (.tmp p.1) = p.2 ∧ AllEv a l
def KeepEv (l : List (Nat × Value)) : List (Nat × Value) → Prop
  | [] => True
  | p :: l' => look l p.1 = some p.2 ∧ KeepEv l l'

section
variable {a : Act} {n : Nat} {l : List (Nat × Value)}
theorem Has.of (hz : a.tmps.size = n) (hd : a.defers = []) (h : AllEv a l) : Has a n l := by
  refine ⟨hz, hd, ?_⟩
  induction l with
  | nil => intro k v e; cases e
  | cons p l ih =>
    obtain ⟨j, u⟩ := p
    intro k v e
    simp only [look] at e
    cases hb : Nat.beq j k with
    | true =>
      rw [hb, cond_true] at e
      injection e with e
      have := Nat.eq_of_beq_eq_true hb
      subst this; subst e
      exact h.1
    | false =>
      rw [hb, cond_false] at e
      exact ih h.2 k v e
theorem Has.keep {l' : List (Nat × Value)} (h : Has a n l) (hk : KeepEv l l') : Has a n l' := by
  refine Has.of h.sz h.df ?_
  induction l' with
  | nil => trivial
  | cons p l' ih => exact ⟨h.at_ _ _ hk.1, ih hk.2⟩
theorem Has.ev (h : Has a n l) {x : Operand} {v : Value} (hx : evL l x = some v) : a.eval x = v := by
  cases x with
  | tmp t => exact h.at_ t v hx
  | const u => injection hx
  | global g => injection hx
  | func f => injection hx
theorem Has.evs (h : Has a n l) : ∀ {xs : List Operand} {vs : List Value}, evLs l xs = some vs → xs.map a.eval = vs
  | [], vs, hx => by
    cases hx
    rfl
  | x :: xs, vs, hx => by
    unfold evLs at hx
    split at hx
    · next v vs' h1 h2 =>
      injection hx with hx
      rw [List.map_cons, h.ev h1, h.evs h2, hx]
    · cases hx
theorem Has.put (h : Has a n l) {d : Nat} (hd : Nat.blt d n = true) (v : Value) : Has (a.put (some d) v) n ((d, v) :: l) := by
  refine ⟨by rw [Act.size_put, h.sz], by rw [Act.defers_put', h.df], fun k u e => ?_⟩
  simp only [look] at e
  cases hb : Nat.beq d k with
  | true =>
    rw [hb, cond_true] at e
    injection e with e
    have := Nat.eq_of_beq_eq_true hb
    subst this; subst e
    exact Act.eval_put_same _ _ _ (by rw [h.sz]; simpa [Nat.blt_eq] using hd)
  | false =>
    rw [hb, cond_false] at e
    rw [Act.eval_put_ne _ _ _ _ (by intro e2; subst e2; rw [Nat.beq_refl] at hb; cases hb)]
    exact h.at_ k u e
/-- the frame becomes a letter. -/
theorem Has.start {P : Program} {c : Code} {Q : Exit → Act → World → Prop} {w : World} (n : Nat) (l : List (Nat × Value)) (hz : a.tmps.size = n) (hd : a.defers = []) (h : AllEv a l) (k : ∀ a, Has a n l → c.wp P Q a w) : c.wp P Q a w :=
  k a (Has.of hz hd h)
end
theorem then_normal {next : Act → World → Prop} {Q : Exit → Act → World → Prop} {a : Act} {w : World} (h : next a w) : Exit.then next Q .normal a w := h

section
variable {P : Program} {ops : Array Oper} {rest : List Oper} {o : Oper} {a : Act} {w : World} {Q : Exit → Act → World → Prop} {n : Nat} {l : List (Nat × Value)}
theorem Has.go (H : Has a n l) (hw : Region.wanted o (yielded ops a.tmps) = true) {d : Nat} (hd : o.dst = some d) (hn : Nat.blt d n = true) (v : Value) {w' : World} (hrun : (execOp a.eval o).run P w = .ok (.value v) w')
    (h : ∀ a', Has a' n ((d, v) :: l) → wpList P ops Q rest a' w') : wpList P ops Q (o :: rest) a w :=
  wpList_go hw d hd v w' hrun (h _ (H.put hn v))
theorem Has.run0 (H : Has a n l) (hw : Region.wanted o (yielded ops a.tmps) = true) (hd : o.dst = none) {w' : World} (hrun : (execOp a.eval o).run P w = .ok .skip w')
    (h : ∀ a', Has a' n l → wpList P ops Q rest a' w') : wpList P ops Q (o :: rest) a w := by
  unfold wpList
  rw [if_pos hw]
  left
  unfold Oper.wp
  rw [hrun, Oper.upon_skip, hd]
  exact h a H
/-- a guarded operation is wanted, or not. -/
theorem Has.wt (H : Has a n l) {j d : Nat} {b : Bool} (hg : o.guard = some (j, b)) (hj : (ops[j]?).bind (·.dst) = some d) (hv : look l d = some (.bool b)) : Region.wanted o (yielded ops a.tmps) = true := by
  have hy := yielded_of hj (H.at_ d _ hv)
  cases b with
  | true => exact wanted_of hg hy
  | false => rw [wantedf_of hg hy]; rfl
theorem Has.wf (H : Has a n l) {j d : Nat} {b : Bool} (hg : o.guard = some (j, b)) (hj : (ops[j]?).bind (·.dst) = some d) (hv : look l d = some (.bool !b)) : Region.wanted o (yielded ops a.tmps) = false := by
  have hy := yielded_of hj (H.at_ d _ hv)
  cases b with
  | true => exact wanted_of hg hy
  | false => rw [wantedf_of hg hy]; rfl
theorem Has.off (H : Has a n l) {j d k : Nat} {b : Bool} (hg : o.guard = some (j, b)) (hj : (ops[j]?).bind (·.dst) = some d) (hv : look l d = some (.bool !b)) (hd : o.dst = some k) (hn : Nat.blt k n = true)
    (h : ∀ a', Has a' n ((k, undef) :: l) → wpList P ops Q rest a' w) : wpList P ops Q (o :: rest) a w :=
  wpList_off (Has.wf H hg hj hv) k hd (h _ (H.put hn undef))

theorem Has.field (H : Has a n l) (hw : Region.wanted o (yielded ops a.tmps) = true) {S f d g off : Nat} {x : Operand} (ho : o.op = .fieldAddr S x f) (hd : o.dst = some d) (hn : Nat.blt d n = true) (hx : evL l x = some (.pointer (some ⟨g, 0, none⟩)))
    (hf : ∀ g w, (Instr.fieldAt S (.pointer (some ⟨g, 0, none⟩)) f).run P w = .ok (.pointer (some ⟨g, off, none⟩)) w) (h : ∀ a', Has a' n ((d, .pointer (some ⟨g, off, none⟩)) :: l) → wpList P ops Q rest a' w) : wpList P ops Q (o :: rest) a w := by
  refine H.go hw hd hn _ ?_ h
  unfold execOp
  simp only [ho, H.ev hx, Sem.run_bind, hf, Result.andThen_ok, Sem.run_pure]
theorem Has.load (H : Has a n l) (hw : Region.wanted o (yielded ops a.tmps) = true) {T d : Nat} {x : Operand} {p v : Value} (ho : o.op = .load T x) (hd : o.dst = some d) (hn : Nat.blt d n = true) (hx : evL l x = some p) (hl : (Instr.loadAt T p).run P w = .ok v w)
    (h : ∀ a', Has a' n ((d, v) :: l) → wpList P ops Q rest a' w) : wpList P ops Q (o :: rest) a w := by
  refine H.go hw hd hn _ ?_ h
  unfold execOp
  simp only [ho, H.ev hx, Sem.run_bind, hl, Result.andThen_ok, Sem.run_pure]
theorem Has.store (H : Has a n l) (hw : Region.wanted o (yielded ops a.tmps) = true) {T : Nat} {x y : Operand} {p v : Value} {w' : World} (ho : o.op = .store T x y) (hd : o.dst = none) (hx : evL l x = some p) (hy : evL l y = some v) (hl : (Instr.storeAt T p v).run P w = .ok () w')
    (h : ∀ a', Has a' n l → wpList P ops Q rest a' w') : wpList P ops Q (o :: rest) a w := by
  refine H.run0 hw hd (w' := w') ?_ h
  unfold execOp
  simp only [ho, H.ev hx, H.ev hy, Sem.run_bind, hl, Result.andThen_ok, Sem.run_pure]
theorem Has.loadS (H : Has a n l) (hgd : o.guard = none) {T d g : Nat} {x : Operand} {L : List Value} (ho : o.op = .load T x) (hd : o.dst = some d) (hn : Nat.blt d n = true) (hx : evL l x = some (.pointer (some ⟨g, 0, none⟩))) (hC : Cells w g L) {du : TypeDesc}
    (hu : P.underlying T = some du) (hr : du.isRow = true) {m : Nat} (hi : (P.info? T).map (·.size) = some m) (hl : L.length = m) (h : ∀ a', Has a' n ((d, .agg L.toArray) :: l) → wpList P ops Q rest a' w) : wpList P ops Q (o :: rest) a w :=
  wpList_load_cells hgd T x ho g (H.ev hx) hC du hu hr m hi hl (by rw [hd]; exact h _ (H.put hn _))
theorem Has.storeS (H : Has a n l) (hgd : o.guard = none) {T g : Nat} {x y : Operand} {L L0 : List Value} (ho : o.op = .store T x y) (hd : o.dst = none) (hx : evL l x = some (.pointer (some ⟨g, 0, none⟩))) (hy : evL l y = some (.agg L.toArray)) (hC : Cells w g L0)
    {m : Nat} (hi : (P.info? T).map (·.size) = some m) (hl0 : L0.length = m) (hl1 : L.length = m) (h1 : L.all (·.oneCell') = true)
    (h : ∀ a' w', Has a' n l → w.grownBy w' (some g) → w'.heap.size = w.heap.size → Cells w' g L → wpList P ops Q rest a' w') : wpList P ops Q (o :: rest) a w :=
  wpList_store_cells hgd T x y ho g (H.ev hx) L (H.ev hy) hC m hi hl0 hl1 h1 (fun w' hg hs hC' => by rw [hd]; exact h a w' H hg hs hC')
theorem Has.move (H : Has a n l) (hw : Region.wanted o (yielded ops a.tmps) = true) {d : Nat} {x : Operand} {v : Value} (ho : o.op = .move x ∨ o.op = .assign x) (hd : o.dst = some d) (hn : Nat.blt d n = true) (hx : evL l x = some v)
    (h : ∀ a', Has a' n ((d, v) :: l) → wpList P ops Q rest a' w) : wpList P ops Q (o :: rest) a w := by
  refine H.go hw hd hn _ ?_ h
  rw [← H.ev hx]
  unfold execOp
  rcases ho with ho | ho <;> simp only [ho] <;> rfl
theorem Has.pick (H : Has a n l) (hw : Region.wanted o (yielded ops a.tmps) = true) {d : Nat} {c x y : Operand} {b : Bool} {v : Value} (ho : o.op = .pick c x y) (hd : o.dst = some d) (hn : Nat.blt d n = true) (hc : evL l c = some (.bool b)) (hx : (if b then evL l x else evL l y) = some v)
    (h : ∀ a', Has a' n ((d, v) :: l) → wpList P ops Q rest a' w) : wpList P ops Q (o :: rest) a w := by
  refine H.go hw hd hn _ ?_ h
  unfold execOp
  simp only [ho, H.ev hc]
  cases b with
  | true => rw [if_pos rfl] at hx; rw [← H.ev hx]; rfl
  | false => rw [if_neg (by decide)] at hx; rw [← H.ev hx]; rfl
theorem Has.bin (H : Has a n l) (hw : Region.wanted o (yielded ops a.tmps) = true) {d : Nat} {b : BinOp} {T T' : TypeId} {x y : Operand} {u v r : Value} (ho : o.op = .binOp b T x y T') (hd : o.dst = some d) (hn : Nat.blt d n = true) (hx : evL l x = some u) (hy : evL l y = some v)
    (hq : (do eqGuard b T x y u v; binOp b T u v : Sem Value).run P w = .ok r w) (h : ∀ a', Has a' n ((d, r) :: l) → wpList P ops Q rest a' w) : wpList P ops Q (o :: rest) a w := by
  refine H.go hw hd hn r ?_ h
  unfold execOp
  rw [Sem.run_bind] at hq
  simp only [ho, H.ev hx, H.ev hy, Sem.run_bind, hq, Result.andThen_ok, Sem.run_pure]
theorem Has.un (H : Has a n l) (hw : Region.wanted o (yielded ops a.tmps) = true) {d : Nat} {b : UnOp} {T : TypeId} {x : Operand} {u r : Value} (ho : o.op = .unOp b T x) (hd : o.dst = some d) (hn : Nat.blt d n = true) (hx : evL l x = some u)
    (hq : (Op.unary b u).run P w = .ok r w) (h : ∀ a', Has a' n ((d, r) :: l) → wpList P ops Q rest a' w) : wpList P ops Q (o :: rest) a w := by
  refine H.go hw hd hn r ?_ h
  unfold execOp
  simp only [ho, H.ev hx, Sem.run_bind, hq, Result.andThen_ok, Sem.run_pure]
theorem Has.conv (H : Has a n l) (hw : Region.wanted o (yielded ops a.tmps) = true) {d : Nat} {T T' : TypeId} {x : Operand} {u r : Value} {w' : World} (ho : o.op = .convert T T' x) (hd : o.dst = some d) (hn : Nat.blt d n = true) (hx : evL l x = some u)
    (hq : (convert T T' u).run P w = .ok r w') (h : ∀ a', Has a' n ((d, r) :: l) → wpList P ops Q rest a' w') : wpList P ops Q (o :: rest) a w := by
  refine H.go hw hd hn r (w' := w') ?_ h
  unfold execOp
  simp only [ho, H.ev hx, Sem.run_bind, hq, Result.andThen_ok, Sem.run_pure]
theorem Has.extract (H : Has a n l) (hw : Region.wanted o (yielded ops a.tmps) = true) {d i : Nat} {x : Operand} {u r : Value} (ho : o.op = .extract x i) (hd : o.dst = some d) (hn : Nat.blt d n = true) (hx : evL l x = some u)
    (hq : (Instr.extract u i).run P w = .ok r w) (h : ∀ a', Has a' n ((d, r) :: l) → wpList P ops Q rest a' w) : wpList P ops Q (o :: rest) a w := by
  refine H.go hw hd hn r ?_ h
  unfold execOp
  simp only [ho, H.ev hx, Sem.run_bind, hq, Result.andThen_ok, Sem.run_pure]
theorem Has.call (H : Has a n l) (hw : Region.wanted o (yielded ops a.tmps) = true) {d : Nat} {f : FuncId} {xs : Array Operand} {ats : Array TypeId} {vs : List Value} (ho : o.op = .call { callee := .value (.func f), args := xs, argTypes := ats }) (hd : o.dst = some d) (hn : Nat.blt d n = true) (hx : evLs l xs.toList = some vs)
    (hen : ∀ (args : Array Value) (w : World), (callFunc f args).run P w = .ok (.enter f args) w) {R : Value → World → Prop} (hc : Calls P f vs.toArray w fun e w' => ∃ v, e = .returned v ∧ R v w')
    (h : ∀ a' v w', R v w' → Has a' n ((d, v) :: l) → wpList P ops Q rest a' w') : wpList P ops Q (o :: rest) a w := by
  refine wpList_enter hw d hd f vs.toArray ?_ R hc (fun v w' hR => h _ v w' hR (H.put hn v))
  have e : xs.map a.eval = vs.toArray := by
    rw [← H.evs hx, ← Array.toList_map, Array.toArray_toList]
  have : execOp a.eval o = callFunc f (xs.map a.eval) := by
    obtain ⟨dst, op, ty, pos, after, guard⟩ := o
    have ho' : op = .call { callee := .value (.func f), args := xs, argTypes := ats } := ho
    subst ho'
    rw [execOp_call_go]
    simp
  rw [this, hen, e]
theorem Has.alloc (H : Has a n l) (hgd : o.guard = none) {T d : Nat} (ho : o.op = .alloc T) (hd : o.dst = some d) (hn : Nat.blt d n = true) (L : List Value) (hz : ∀ w, (zeroValue T).run P w = .ok (.agg L.toArray) w)
    (h : ∀ a' w', Below w.heap.size w w' → w'.heap.size = w.heap.size + 1 → Cells w' w.heap.size L → Has a' n ((d, .pointer (some ⟨w.heap.size, 0, none⟩)) :: l) → wpList P ops Q rest a' w') : wpList P ops Q (o :: rest) a w :=
  wpList_alloc_cells hgd T ho L hz w.heap.size rfl (fun w' hb hs hC => by rw [hd]; exact h _ w' hb hs hC (H.put hn _))
theorem Has.box (H : Has a n l) (hgd : o.guard = none) {T d : Nat} {x : Operand} {L : List Value} (ho : o.op = .box T x) (hd : o.dst = some d) (hn : Nat.blt d n = true) (hx : evL l x = some (.agg L.toArray))
    (h : ∀ a' w', Below w.heap.size w w' → w'.heap.size = w.heap.size + 1 → Cells w' w.heap.size L → Has a' n ((d, .pointer (some ⟨w.heap.size, 0, none⟩)) :: l) → wpList P ops Q rest a' w') : wpList P ops Q (o :: rest) a w :=
  wpList_box_cells hgd T x ho L (H.ev hx) w.heap.size rfl (fun w' hb hs hC => by rw [hd]; exact h _ w' hb hs hC (H.put hn _))
/-- whatever operation, its operands known. -/
theorem Has.any (H : Has a n l) (hw : Region.wanted o (yielded ops a.tmps) = true) {d : Nat} (hd : o.dst = some d) (hn : Nat.blt d n = true) (v : Value) {w' : World} (hs : ∀ cs b, o.op ≠ .select cs b) (hk : o.op.operands.all (fun x => (evL l x).isSome) = true)
    (hrun : (execOp (fun x => (evL l x).getD undef) o).run P w = .ok (.value v) w') (h : ∀ a', Has a' n ((d, v) :: l) → wpList P ops Q rest a' w') : wpList P ops Q (o :: rest) a w := by
  refine H.go hw hd hn v ?_ h
  rw [← hrun]
  congr 1
  refine execOp_congr o hs (fun x hx => ?_)
  obtain ⟨u, hu⟩ := Option.isSome_iff_exists.1 (Array.all_eq_true'.1 hk x hx)
  rw [H.ev hu, hu]
  rfl
theorem Has.cond (H : Has a n l) {c : Operand} {x y : Code} {t : Bool} (hc : evL l c = some (.bool t)) (h : (if t then x else y).wp P Q a w) : (Code.cond c x y).wp P Q a w := wp_cond (H.ev hc) h
end
theorem Has.condT {P : Program} {a : Act} {w : World} {Q : Exit → Act → World → Prop} {n : Nat} {l : List (Nat × Value)} (H : Has a n l) {c : Operand} {x y : Code} (hc : evL l c = some (.bool true)) (h : x.wp P Q a w) : (Code.cond c x y).wp P Q a w := wp_cond_true (H.ev hc) h
theorem Has.condF {P : Program} {a : Act} {w : World} {Q : Exit → Act → World → Prop} {n : Nat} {l : List (Nat × Value)} (H : Has a n l) {c : Operand} {x y : Code} (hc : evL l c = some (.bool false)) (h : y.wp P Q a w) : (Code.cond c x y).wp P Q a w := wp_cond_false (H.ev hc) h
theorem block_normal {id : Nat} {Q : Exit → Act → World → Prop} {a : Act} {w : World} (h : Q .normal a w) : Exit.inBlock id Q .normal a w := h
theorem block_ret {id : Nat} {Q : Exit → Act → World → Prop} {a : Act} {w : World} (h : Q .ret a w) : Exit.inBlock id Q .ret a w := h
theorem then_ret {next : Act → World → Prop} {Q : Exit → Act → World → Prop} {a : Act} {w : World} (h : Q .ret a w) : Exit.then next Q .ret a w := h
theorem skip_wp {P : Program} {a : Act} {w : World} {Q : Exit → Act → World → Prop} (h : Q .normal a w) : Code.skip.wp P Q a w := wp_skip h

/-- blocks of one's own above B, each with the cells that it begins with; below B all is as in W. -/
structure Own (W : World) (B : Nat) (bs : List (Nat × List Value)) (w : World) : Prop where
  bel : Below B W w
  le : B ≤ w.heap.size
  nd : (bs.map (·.1)).Nodup
  mem : ∀ p ∈ bs, B ≤ p.1 ∧ p.1 < w.heap.size ∧ Cells w p.1 p.2
section
variable {W w w' : World} {B : Nat} {bs : List (Nat × List Value)}
theorem Own.start (W : World) : Own W W.heap.size [] W := ⟨Below.refl _ _, Nat.le_refl _, by simp, fun p hp => by cases hp⟩
theorem Own.call (h : Own W B bs w) (hb : Below w.heap.size w w') : Own W B bs w' :=
  ⟨h.bel.trans (hb.mono h.le), Nat.le_trans h.le hb.size, h.nd, fun p hp => ⟨(h.mem p hp).1, Nat.lt_of_lt_of_le (h.mem p hp).2.1 hb.size, (h.mem p hp).2.2.below hb (h.mem p hp).2.1⟩⟩
theorem Own.drew (h : Own W B bs w) : Own W B bs w.drew := h.call (Below.drew (Below.refl _ _))
theorem Own.alloc (h : Own W B bs w) (hb : Below w.heap.size w w') (hs : w'.heap.size = w.heap.size + 1) {L : List Value} (hC : Cells w' w.heap.size L) : Own W B ((w.heap.size, L) :: bs) w' := by
  refine ⟨h.bel.trans (hb.mono h.le), Nat.le_trans h.le hb.size, ?_, fun p hp => ?_⟩
  · rw [List.map_cons, List.nodup_cons]
    refine ⟨fun hm => ?_, h.nd⟩
    obtain ⟨p, hp, e⟩ := List.mem_map.1 hm
    have := (h.mem p hp).2.1
    omega
  · rcases List.mem_cons.1 hp with rfl | hp
    · exact ⟨h.le, by rw [hs]; exact Nat.lt_succ_self _, hC⟩
    · exact ⟨(h.mem p hp).1, Nat.lt_of_lt_of_le (h.mem p hp).2.1 hb.size, (h.mem p hp).2.2.below hb (h.mem p hp).2.1⟩
theorem Own.get (h : Own W B bs w) (i : Nat) {g : Nat} {L : List Value} (hi : bs[i]? = some (g, L)) : Cells w g L := (h.mem _ (List.mem_of_getElem? hi)).2.2
theorem Own.lt (h : Own W B bs w) (i : Nat) {g : Nat} {L : List Value} (hi : bs[i]? = some (g, L)) : g < w.heap.size := (h.mem _ (List.mem_of_getElem? hi)).2.1
theorem Own.ge (h : Own W B bs w) (i : Nat) {g : Nat} {L : List Value} (hi : bs[i]? = some (g, L)) : B ≤ g := (h.mem _ (List.mem_of_getElem? hi)).1
theorem nodup_get : ∀ {l : List Nat}, l.Nodup → ∀ {i j x : Nat}, l[i]? = some x → l[j]? = some x → i = j
  | [], _, i, j, x, hi, _ => by simp at hi
  | y :: l, h, i, j, x, hi, hj => by
    rw [List.nodup_cons] at h
    cases i with
    | zero =>
      cases j with
      | zero => rfl
      | succ j =>
        simp only [List.getElem?_cons_zero, Option.some.injEq] at hi
        subst hi
        exact absurd (List.mem_of_getElem? (by simpa using hj)) h.1
    | succ i =>
      cases j with
      | zero =>
        simp only [List.getElem?_cons_zero, Option.some.injEq] at hj
        subst hj
        exact absurd (List.mem_of_getElem? (by simpa using hi)) h.1
      | succ j => exact congrArg (· + 1) (nodup_get h.2 (by simpa using hi) (by simpa using hj))
theorem Own.store (h : Own W B bs w) (i : Nat) {g : Nat} {L L' : List Value} (hi : bs[i]? = some (g, L)) (hg : w.grownBy w' (some g)) (hs : w'.heap.size = w.heap.size) (hC : Cells w' g L') : Own W B (bs.set i (g, L')) w' := by
  have hgB := h.ge i hi
  have hglt := h.lt i hi
  have hli : i < bs.length := (List.getElem?_eq_some_iff.1 hi).1
  have hmap : (bs.set i (g, L')).map (·.1) = bs.map (·.1) := by
    apply List.ext_getElem?
    intro j
    rw [List.getElem?_map, List.getElem?_map, List.getElem?_set]
    by_cases e : i = j
    · subst e
      simp only [if_true, hli, hi, Option.map_some]
    · rw [if_neg e]
  refine ⟨h.bel.grown hg h.le (fun k hk => by injection hk with hk; rw [← hk]; exact hgB), by rw [hs]; exact h.le, by rw [hmap]; exact h.nd, fun p hp => ?_⟩
  obtain ⟨j, hj⟩ := List.getElem?_of_mem hp
  rw [List.getElem?_set] at hj
  by_cases e : i = j
  · rw [if_pos e, if_pos hli] at hj
    injection hj with hj
    subst hj
    exact ⟨hgB, by rw [hs]; exact hglt, hC⟩
  · rw [if_neg e] at hj
    have hm := h.mem p (List.mem_of_getElem? hj)
    refine ⟨hm.1, by rw [hs]; exact hm.2.1, hm.2.2.kept hg hm.2.1 (fun e2 => e ?_)⟩
    injection e2 with e2
    have h1 : (bs.map (·.1))[i]? = some g := by rw [List.getElem?_map, hi]; rfl
    have h2 : (bs.map (·.1))[j]? = some g := by rw [List.getElem?_map, hj, ← e2]; rfl
    exact nodup_get h.nd h1 h2
end
/-- a cell of a block of one's own is written. -/
theorem Has.storeC {P : Program} {ops : Array Oper} {rest : List Oper} {o : Oper} {a : Act} {w W : World} {B : Nat} {bs : List (Nat × List Value)} {Q : Exit → Act → World → Prop} {n : Nat} {l : List (Nat × Value)} (H : Has a n l) (hO : Own W B bs w) (i : Nat) {g j : Nat} {L : List Value} (hi : bs[i]? = some (g, L))
    (hw : Region.wanted o (yielded ops a.tmps) = true) {T : Nat} {x y : Operand} {v : Value} (ho : o.op = .store T x y) (hd : o.dst = none) (hx : evL l x = some (.pointer (some ⟨g, j, none⟩))) (hy : evL l y = some v) (hj : Nat.blt j L.length = true)
    (hst : ∀ u, w.cell? ⟨g, j, none⟩ = some u → w.frozen? ⟨g, j, none⟩ = false → (Instr.storeAt T (.pointer (some ⟨g, j, none⟩)) v).run P w = .ok () (w.setCell ⟨g, j, none⟩ v))
    (h : ∀ a' w', Has a' n l → Own W B (bs.set i (g, L.set j v)) w' → wpList P ops Q rest a' w') : wpList P ops Q (o :: rest) a w := by
  have hj' : j < L.length := by simpa [Nat.blt_eq] using hj
  have hC := hO.get i hi
  obtain ⟨c1, c2⟩ := hC j _ (List.getElem?_eq_getElem hj')
  refine H.store hw ho hd hx hy (hst _ c1 c2) (fun a' H' => h a' _ H' ?_)
  exact hO.store i hi (grown_setCell w g j v) (size_setCell' _ _ _) (hC.set j v hj')
theorem Own.two {W w : World} {B g1 g2 : Nat} {L1 L2 : List Value} (h : Own W B [(g2, L2), (g1, L1)] w) : Two W B g1 g2 L1 L2 w := by
  have hn := h.nd
  simp only [List.map_cons, List.map_nil, List.nodup_cons, List.mem_singleton] at hn
  exact ⟨h.get 1 rfl, h.get 0 rfl, h.lt 1 rfl, h.lt 0 rfl, fun e => hn.1 e.symm, h.ge 1 rfl, h.ge 0 rfl, h.bel⟩
theorem Two.own {W w : World} {B g1 g2 : Nat} {L1 L2 : List Value} (h : Two W B g1 g2 L1 L2 w) : Own W B [(g2, L2), (g1, L1)] w := by
  refine ⟨h.bel, Nat.le_of_lt (Nat.lt_of_le_of_lt h.b1 h.lt1), ?_, fun p hp => ?_⟩
  · simp only [List.map_cons, List.map_nil, List.nodup_cons, List.mem_singleton, List.not_mem_nil, not_false_iff, List.nodup_nil, and_true]
    exact fun e => h.ne e.symm
  · simp only [List.mem_cons, List.not_mem_nil, or_false] at hp
    rcases hp with rfl | rfl
    · exact ⟨h.b2, h.lt2, h.c2⟩
    · exact ⟨h.b1, h.lt1, h.c1⟩
theorem quietC {P : Program} {f : FuncId} {args : Array Value} {w : World} {v : Value} (h : Calls P f args w fun e w' => e = .returned v ∧ w = w') : Calls P f args w fun e w' => ∃ v', e = .returned v' ∧ (v' = v ∧ w = w') :=
  h.mono fun _ _ h => ⟨v, h.1, rfl, h.2⟩
theorem belowC {P : Program} {f : FuncId} {args : Array Value} {w : World} {v : Value} (h : Calls P f args w fun e w' => e = .returned v ∧ Below w.heap.size w w') : Calls P f args w fun e w' => ∃ v', e = .returned v' ∧ (v' = v ∧ Below w.heap.size w w') :=
  h.mono fun _ _ h => ⟨v, h.1, rfl, h.2⟩
end Go.Proofs.YtkcdkjpmbjcmdaaDoor
