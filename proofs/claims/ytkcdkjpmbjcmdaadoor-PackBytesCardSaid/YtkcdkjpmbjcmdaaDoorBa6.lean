/-
  What the listed tables give the walks, and a start at which they read so.
-/
import Derived.Lib.LaidIn
import Derived.Lib.LaidU8T
import Derived.Test.YtkcdkjpmbjcmdaaDoorBa5
namespace Go.Proofs.YtkcdkjpmbjcmdaaDoor
open Go.ChangeShapes Go.WideShapes Go.ChangeAt Go.RowKit Go.Deep

abbrev lay2 : List (String × DataW Unit) := [("unicode/utf8.acceptRanges", Rows.laid_unicode_utf8_acceptRanges), ("unicode/utf8.first", Rows.laid_unicode_utf8_first)]
set_option maxRecDepth 100000 in
theorem lay_first : (Rows.laid_unicode_utf8_first : DataW Unit) = Lib.firstData := by rfl
set_option maxRecDepth 100000 in
theorem lay_accept : (Rows.laid_unicode_utf8_acceptRanges : DataW Unit) = Lib.acceptData := by rfl
theorem plain_lay : (lay2.all fun x => x.2.handleName?.isNone) = true := by kernel_rfl
theorem tabs_of {W : World} (h : laidMetH Tryd.prog lay2 W) : Wd W := by
  rw [MakeChecks.laidMetH_plain _ _ _ plain_lay] at h
  have h1 := Lib.laidMet.reads h (n := "unicode/utf8.acceptRanges") (d := Rows.laid_unicode_utf8_acceptRanges) (.head _)
  have h2 := Lib.laidMet.reads h (n := "unicode/utf8.first") (d := Rows.laid_unicode_utf8_first) (.tail _ (.head _))
  rw [lay_accept] at h1
  rw [lay_first] at h2
  exact utf8Tabs_of_readsT (U8Types.of196 Sh.lays196) ⟨by kernel_rfl, by kernel_rfl, by kernel_rfl, by kernel_rfl, by kernel_rfl, by kernel_rfl, by kernel_rfl⟩ h2 h1
noncomputable def laidWorld (os : Os) : World :=
  let w0 := World.holding Tryd.prog os ⟨#[], #[], []⟩
  let put (h : Array Obj) (g : Nat) (cs : Array Value) : Array Obj := h.modify g fun
    | .cells _ t frozen => .cells cs t frozen
    | o => o
  let h1 := put w0.heap 0 (Lib.firstTab.map fun z => Value.int .u8 z).toArray
  let h2 := put h1 1 ((List.range 16).flatMap fun i => [Value.int .u8 (Lib.accLo i), Value.int .u8 (Lib.accHi i)]).toArray
  { w0 with heap := h2 }
theorem laid_door (os : Os) (args : Array Value) : laidMetH Tryd.prog lay2 ((laidWorld os).forCall (fun _ _ => 0) ⟨#[], args, []⟩).memory := by
  rw [MakeChecks.laidMetH_plain _ _ _ plain_lay]
  exact (LaidIn.of_run (l := lay2) [0, 1] 8 (by kernel_rfl) (by kernel_rfl) (by kernel_rfl) (by kernel_rfl)).met
end Go.Proofs.YtkcdkjpmbjcmdaaDoor

