/-
  NARROWER THAN 'FOR EVERY INPUT', by the rows' own cells (each row's printed sentence says how): PackBytes: laid · PackParses: laid · PackBack: laid · PackConnects: laid · PackConnacks: laid · PackPublishes: laid · PackPubacks: laid · PackPubrecs: laid · PackPubrels: laid · PackPubcomps: laid · PackSubscribes: laid · PackSubacks: laid · PackUnsubscribes: laid · PackUnsubacks: laid · PackPings: laid · PackPongs: laid · PackByes: laid · StreamFeeds: laid · StreamParts: laid.
  DERIVED. THE GIVEN ROWS OF THIS SEAT. 19 by the template 'for every input the law returns true; each argument reads behind the call as it read before'; 0 by the template 'total and deterministic' (their statements: YtkcdkjpmbjcmdaaDoorTotals.lean).
  GIVEN WITH THE SEED: the statements are not yours to turn. If you find one false, say at which input.
  Laid BY PROGRAM, IN A SANDBOX (cutbox-rows.mjs): the forced cells as the released guide's own fill.sh prints them over the translation 2c37177c38085c10… (all of the seat's roots in one cut). By AI agents, Wed Nov 11 2026. No macro, syntax, notation, axiom, sorry.
-/
import Derived.Test.YtkcdkjpmbjcmdaaDoorChecked
import GoSem.PinnedTables
import GoSem.Claim
import GoSem.ClaimJoined
import GoSem.ClaimMapViews
import Derived.JoinedTies
import Derived.KernelRfl
namespace Go.Proofs.YtkcdkjpmbjcmdaaDoor
/- THE CELL 'sum', in the pinned program and in every row, IS THE sha256 OF THE DUMP (.gsa) THAT YtkcdkjpmbjcmdaaDoorProg.lean LOADS. Nothing in Lean hashes anything: it is a label: what it is worth is what the hold of that sum in a sandbox is worth. -/
noncomputable def Tryd.pinned : Pinned := { name := "ytkcdkjpmbjcmdaadoor", sum := "2c37177c38085c10010fdc52537b69d20fbb82f71fba43ad4af28922dcec6820", checked := Tryd.checked }
namespace Rows
def none {H : Type} : Left H := { results := [], args := [] }

/- WHAT THE LISTED PACKAGE-LEVEL VARIABLES READ AS WHEN THE CALL BEGINS. Each datum BY PROGRAM (the guide's laid-datum.mjs) off the statement by which the dump's own 'gosem.cut.vars' lays the variable. In a bare row this is a premise. The card (YtkcdkjpmbjcmdaaDoorCards.lean) ties it to the program's text. -/
def laid_unicode_utf8_acceptRanges {H : Type} : DataW H := .agg [.agg [.lit (.int .u8 128), .lit (.int .u8 191)], .agg [.lit (.int .u8 160), .lit (.int .u8 191)], .agg [.lit (.int .u8 128), .lit (.int .u8 159)], .agg [.lit (.int .u8 144), .lit (.int .u8 191)], .agg [.lit (.int .u8 128), .lit (.int .u8 143)], .agg [.lit (.int .u8 0), .lit (.int .u8 0)], .agg [.lit (.int .u8 0), .lit (.int .u8 0)], .agg [.lit (.int .u8 0), .lit (.int .u8 0)], .agg [.lit (.int .u8 0), .lit (.int .u8 0)], .agg [.lit (.int .u8 0), .lit (.int .u8 0)], .agg [.lit (.int .u8 0), .lit (.int .u8 0)], .agg [.lit (.int .u8 0), .lit (.int .u8 0)], .agg [.lit (.int .u8 0), .lit (.int .u8 0)], .agg [.lit (.int .u8 0), .lit (.int .u8 0)], .agg [.lit (.int .u8 0), .lit (.int .u8 0)], .agg [.lit (.int .u8 0), .lit (.int .u8 0)]]
/-- One of Go's own tables, pinned by name: the form's constant. -/
def laid_unicode_utf8_first : DataW Unit := Go.Pinned.utf8First

/-- 'kiosklaw18.PackBytes': WHATEVER THE INPUT: true; the input reads as it did. -/
def packBytesSpec : ChangeSpec := { name := "packBytes", fn := fun _ => fun
  | [d] => { results := [.lit (.bool true)], args := [d] }
  | _ => none }
def packBytesRow : OpenClaim := { program := "ytkcdkjpmbjcmdaadoor", sum := "2c37177c38085c10010fdc52537b69d20fbb82f71fba43ad4af28922dcec6820", func := "kiosk/kiosklaw18.PackBytes", spec := "packBytes", inPlace := ["internal/bytealg.IndexByteString", "internal/bytealg.IndexString"], named := ["unicode/utf8.first", "unicode/utf8.acceptRanges", "internal/bytealg.MaxLen"], apart := false, laid := [("unicode/utf8.acceptRanges", laid_unicode_utf8_acceptRanges), ("unicode/utf8.first", laid_unicode_utf8_first)] }
def PackBytesSaid : Prop := packBytesRow.holds Tryd.pinned (OpenSpec.ofChange packBytesSpec)

/-- ITS FALSE NEIGHBOUR: 'it returns false'. Refute it at one input. -/
def packBytesWrong : ChangeSpec := { name := "packBytes", fn := fun _ => fun
  | [d] => { results := [.lit (.bool false)], args := [d] }
  | _ => none }
def PackBytesWrongFalsely : Prop := packBytesRow.holds Tryd.pinned (OpenSpec.ofChange packBytesWrong)

/-- 'kiosklaw18.PackParses': WHATEVER THE INPUT: true; the input reads as it did. -/
def packParsesSpec : ChangeSpec := { name := "packParses", fn := fun _ => fun
  | [d] => { results := [.lit (.bool true)], args := [d] }
  | _ => none }
def packParsesRow : OpenClaim := { program := "ytkcdkjpmbjcmdaadoor", sum := "2c37177c38085c10010fdc52537b69d20fbb82f71fba43ad4af28922dcec6820", func := "kiosk/kiosklaw18.PackParses", spec := "packParses", inPlace := ["internal/bytealg.IndexByteString", "internal/bytealg.IndexString"], named := ["unicode/utf8.first", "unicode/utf8.acceptRanges", "internal/bytealg.MaxLen"], apart := false, laid := [("unicode/utf8.acceptRanges", laid_unicode_utf8_acceptRanges), ("unicode/utf8.first", laid_unicode_utf8_first)] }
def PackParsesSaid : Prop := packParsesRow.holds Tryd.pinned (OpenSpec.ofChange packParsesSpec)

/-- ITS FALSE NEIGHBOUR: 'it returns false'. Refute it at one input. -/
def packParsesWrong : ChangeSpec := { name := "packParses", fn := fun _ => fun
  | [d] => { results := [.lit (.bool false)], args := [d] }
  | _ => none }
def PackParsesWrongFalsely : Prop := packParsesRow.holds Tryd.pinned (OpenSpec.ofChange packParsesWrong)

/-- 'kiosklaw18.PackBack': WHATEVER THE INPUT: true; the input reads as it did. -/
def packBackSpec : ChangeSpec := { name := "packBack", fn := fun _ => fun
  | [d] => { results := [.lit (.bool true)], args := [d] }
  | _ => none }
def packBackRow : OpenClaim := { program := "ytkcdkjpmbjcmdaadoor", sum := "2c37177c38085c10010fdc52537b69d20fbb82f71fba43ad4af28922dcec6820", func := "kiosk/kiosklaw18.PackBack", spec := "packBack", inPlace := ["internal/bytealg.IndexByteString", "internal/bytealg.IndexString"], named := ["unicode/utf8.first", "unicode/utf8.acceptRanges", "internal/bytealg.MaxLen"], apart := false, laid := [("unicode/utf8.acceptRanges", laid_unicode_utf8_acceptRanges), ("unicode/utf8.first", laid_unicode_utf8_first)] }
def PackBackSaid : Prop := packBackRow.holds Tryd.pinned (OpenSpec.ofChange packBackSpec)

/-- ITS FALSE NEIGHBOUR: 'it returns false'. Refute it at one input. -/
def packBackWrong : ChangeSpec := { name := "packBack", fn := fun _ => fun
  | [d] => { results := [.lit (.bool false)], args := [d] }
  | _ => none }
def PackBackWrongFalsely : Prop := packBackRow.holds Tryd.pinned (OpenSpec.ofChange packBackWrong)

/-- 'kiosklaw18.PackConnects': WHATEVER THE INPUT: true; the input reads as it did. -/
def packConnectsSpec : ChangeSpec := { name := "packConnects", fn := fun _ => fun
  | [d] => { results := [.lit (.bool true)], args := [d] }
  | _ => none }
def packConnectsRow : OpenClaim := { program := "ytkcdkjpmbjcmdaadoor", sum := "2c37177c38085c10010fdc52537b69d20fbb82f71fba43ad4af28922dcec6820", func := "kiosk/kiosklaw18.PackConnects", spec := "packConnects", inPlace := ["internal/bytealg.IndexByteString", "internal/bytealg.IndexString"], named := ["unicode/utf8.first", "unicode/utf8.acceptRanges", "internal/bytealg.MaxLen"], apart := false, laid := [("unicode/utf8.acceptRanges", laid_unicode_utf8_acceptRanges), ("unicode/utf8.first", laid_unicode_utf8_first)] }
def PackConnectsSaid : Prop := packConnectsRow.holds Tryd.pinned (OpenSpec.ofChange packConnectsSpec)

/-- ITS FALSE NEIGHBOUR: 'it returns false'. Refute it at one input. -/
def packConnectsWrong : ChangeSpec := { name := "packConnects", fn := fun _ => fun
  | [d] => { results := [.lit (.bool false)], args := [d] }
  | _ => none }
def PackConnectsWrongFalsely : Prop := packConnectsRow.holds Tryd.pinned (OpenSpec.ofChange packConnectsWrong)

/-- 'kiosklaw18.PackConnacks': WHATEVER THE INPUT: true; the input reads as it did. -/
def packConnacksSpec : ChangeSpec := { name := "packConnacks", fn := fun _ => fun
  | [d] => { results := [.lit (.bool true)], args := [d] }
  | _ => none }
def packConnacksRow : OpenClaim := { program := "ytkcdkjpmbjcmdaadoor", sum := "2c37177c38085c10010fdc52537b69d20fbb82f71fba43ad4af28922dcec6820", func := "kiosk/kiosklaw18.PackConnacks", spec := "packConnacks", inPlace := ["internal/bytealg.IndexByteString", "internal/bytealg.IndexString"], named := ["unicode/utf8.first", "unicode/utf8.acceptRanges", "internal/bytealg.MaxLen"], apart := false, laid := [("unicode/utf8.acceptRanges", laid_unicode_utf8_acceptRanges), ("unicode/utf8.first", laid_unicode_utf8_first)] }
def PackConnacksSaid : Prop := packConnacksRow.holds Tryd.pinned (OpenSpec.ofChange packConnacksSpec)

/-- ITS FALSE NEIGHBOUR: 'it returns false'. Refute it at one input. -/
def packConnacksWrong : ChangeSpec := { name := "packConnacks", fn := fun _ => fun
  | [d] => { results := [.lit (.bool false)], args := [d] }
  | _ => none }
def PackConnacksWrongFalsely : Prop := packConnacksRow.holds Tryd.pinned (OpenSpec.ofChange packConnacksWrong)

/-- 'kiosklaw18.PackPublishes': WHATEVER THE INPUT: true; the input reads as it did. -/
def packPublishesSpec : ChangeSpec := { name := "packPublishes", fn := fun _ => fun
  | [d] => { results := [.lit (.bool true)], args := [d] }
  | _ => none }
def packPublishesRow : OpenClaim := { program := "ytkcdkjpmbjcmdaadoor", sum := "2c37177c38085c10010fdc52537b69d20fbb82f71fba43ad4af28922dcec6820", func := "kiosk/kiosklaw18.PackPublishes", spec := "packPublishes", inPlace := ["internal/bytealg.IndexByteString", "internal/bytealg.IndexString"], named := ["unicode/utf8.first", "unicode/utf8.acceptRanges", "internal/bytealg.MaxLen"], apart := false, laid := [("unicode/utf8.acceptRanges", laid_unicode_utf8_acceptRanges), ("unicode/utf8.first", laid_unicode_utf8_first)] }
def PackPublishesSaid : Prop := packPublishesRow.holds Tryd.pinned (OpenSpec.ofChange packPublishesSpec)

/-- ITS FALSE NEIGHBOUR: 'it returns false'. Refute it at one input. -/
def packPublishesWrong : ChangeSpec := { name := "packPublishes", fn := fun _ => fun
  | [d] => { results := [.lit (.bool false)], args := [d] }
  | _ => none }
def PackPublishesWrongFalsely : Prop := packPublishesRow.holds Tryd.pinned (OpenSpec.ofChange packPublishesWrong)

/-- 'kiosklaw18.PackPubacks': WHATEVER THE INPUT: true; the input reads as it did. -/
def packPubacksSpec : ChangeSpec := { name := "packPubacks", fn := fun _ => fun
  | [d] => { results := [.lit (.bool true)], args := [d] }
  | _ => none }
def packPubacksRow : OpenClaim := { program := "ytkcdkjpmbjcmdaadoor", sum := "2c37177c38085c10010fdc52537b69d20fbb82f71fba43ad4af28922dcec6820", func := "kiosk/kiosklaw18.PackPubacks", spec := "packPubacks", inPlace := ["internal/bytealg.IndexByteString", "internal/bytealg.IndexString"], named := ["unicode/utf8.first", "unicode/utf8.acceptRanges", "internal/bytealg.MaxLen"], apart := false, laid := [("unicode/utf8.acceptRanges", laid_unicode_utf8_acceptRanges), ("unicode/utf8.first", laid_unicode_utf8_first)] }
def PackPubacksSaid : Prop := packPubacksRow.holds Tryd.pinned (OpenSpec.ofChange packPubacksSpec)

/-- ITS FALSE NEIGHBOUR: 'it returns false'. Refute it at one input. -/
def packPubacksWrong : ChangeSpec := { name := "packPubacks", fn := fun _ => fun
  | [d] => { results := [.lit (.bool false)], args := [d] }
  | _ => none }
def PackPubacksWrongFalsely : Prop := packPubacksRow.holds Tryd.pinned (OpenSpec.ofChange packPubacksWrong)

/-- 'kiosklaw18.PackPubrecs': WHATEVER THE INPUT: true; the input reads as it did. -/
def packPubrecsSpec : ChangeSpec := { name := "packPubrecs", fn := fun _ => fun
  | [d] => { results := [.lit (.bool true)], args := [d] }
  | _ => none }
def packPubrecsRow : OpenClaim := { program := "ytkcdkjpmbjcmdaadoor", sum := "2c37177c38085c10010fdc52537b69d20fbb82f71fba43ad4af28922dcec6820", func := "kiosk/kiosklaw18.PackPubrecs", spec := "packPubrecs", inPlace := ["internal/bytealg.IndexByteString", "internal/bytealg.IndexString"], named := ["unicode/utf8.first", "unicode/utf8.acceptRanges", "internal/bytealg.MaxLen"], apart := false, laid := [("unicode/utf8.acceptRanges", laid_unicode_utf8_acceptRanges), ("unicode/utf8.first", laid_unicode_utf8_first)] }
def PackPubrecsSaid : Prop := packPubrecsRow.holds Tryd.pinned (OpenSpec.ofChange packPubrecsSpec)

/-- ITS FALSE NEIGHBOUR: 'it returns false'. Refute it at one input. -/
def packPubrecsWrong : ChangeSpec := { name := "packPubrecs", fn := fun _ => fun
  | [d] => { results := [.lit (.bool false)], args := [d] }
  | _ => none }
def PackPubrecsWrongFalsely : Prop := packPubrecsRow.holds Tryd.pinned (OpenSpec.ofChange packPubrecsWrong)

/-- 'kiosklaw18.PackPubrels': WHATEVER THE INPUT: true; the input reads as it did. -/
def packPubrelsSpec : ChangeSpec := { name := "packPubrels", fn := fun _ => fun
  | [d] => { results := [.lit (.bool true)], args := [d] }
  | _ => none }
def packPubrelsRow : OpenClaim := { program := "ytkcdkjpmbjcmdaadoor", sum := "2c37177c38085c10010fdc52537b69d20fbb82f71fba43ad4af28922dcec6820", func := "kiosk/kiosklaw18.PackPubrels", spec := "packPubrels", inPlace := ["internal/bytealg.IndexByteString", "internal/bytealg.IndexString"], named := ["unicode/utf8.first", "unicode/utf8.acceptRanges", "internal/bytealg.MaxLen"], apart := false, laid := [("unicode/utf8.acceptRanges", laid_unicode_utf8_acceptRanges), ("unicode/utf8.first", laid_unicode_utf8_first)] }
def PackPubrelsSaid : Prop := packPubrelsRow.holds Tryd.pinned (OpenSpec.ofChange packPubrelsSpec)

/-- ITS FALSE NEIGHBOUR: 'it returns false'. Refute it at one input. -/
def packPubrelsWrong : ChangeSpec := { name := "packPubrels", fn := fun _ => fun
  | [d] => { results := [.lit (.bool false)], args := [d] }
  | _ => none }
def PackPubrelsWrongFalsely : Prop := packPubrelsRow.holds Tryd.pinned (OpenSpec.ofChange packPubrelsWrong)

/-- 'kiosklaw18.PackPubcomps': WHATEVER THE INPUT: true; the input reads as it did. -/
def packPubcompsSpec : ChangeSpec := { name := "packPubcomps", fn := fun _ => fun
  | [d] => { results := [.lit (.bool true)], args := [d] }
  | _ => none }
def packPubcompsRow : OpenClaim := { program := "ytkcdkjpmbjcmdaadoor", sum := "2c37177c38085c10010fdc52537b69d20fbb82f71fba43ad4af28922dcec6820", func := "kiosk/kiosklaw18.PackPubcomps", spec := "packPubcomps", inPlace := ["internal/bytealg.IndexByteString", "internal/bytealg.IndexString"], named := ["unicode/utf8.first", "unicode/utf8.acceptRanges", "internal/bytealg.MaxLen"], apart := false, laid := [("unicode/utf8.acceptRanges", laid_unicode_utf8_acceptRanges), ("unicode/utf8.first", laid_unicode_utf8_first)] }
def PackPubcompsSaid : Prop := packPubcompsRow.holds Tryd.pinned (OpenSpec.ofChange packPubcompsSpec)

/-- ITS FALSE NEIGHBOUR: 'it returns false'. Refute it at one input. -/
def packPubcompsWrong : ChangeSpec := { name := "packPubcomps", fn := fun _ => fun
  | [d] => { results := [.lit (.bool false)], args := [d] }
  | _ => none }
def PackPubcompsWrongFalsely : Prop := packPubcompsRow.holds Tryd.pinned (OpenSpec.ofChange packPubcompsWrong)

/-- 'kiosklaw18.PackSubscribes': WHATEVER THE INPUT: true; the input reads as it did. -/
def packSubscribesSpec : ChangeSpec := { name := "packSubscribes", fn := fun _ => fun
  | [d] => { results := [.lit (.bool true)], args := [d] }
  | _ => none }
def packSubscribesRow : OpenClaim := { program := "ytkcdkjpmbjcmdaadoor", sum := "2c37177c38085c10010fdc52537b69d20fbb82f71fba43ad4af28922dcec6820", func := "kiosk/kiosklaw18.PackSubscribes", spec := "packSubscribes", inPlace := ["internal/bytealg.IndexByteString", "internal/bytealg.IndexString"], named := ["unicode/utf8.first", "unicode/utf8.acceptRanges", "internal/bytealg.MaxLen"], apart := false, laid := [("unicode/utf8.acceptRanges", laid_unicode_utf8_acceptRanges), ("unicode/utf8.first", laid_unicode_utf8_first)] }
def PackSubscribesSaid : Prop := packSubscribesRow.holds Tryd.pinned (OpenSpec.ofChange packSubscribesSpec)

/-- ITS FALSE NEIGHBOUR: 'it returns false'. Refute it at one input. -/
def packSubscribesWrong : ChangeSpec := { name := "packSubscribes", fn := fun _ => fun
  | [d] => { results := [.lit (.bool false)], args := [d] }
  | _ => none }
def PackSubscribesWrongFalsely : Prop := packSubscribesRow.holds Tryd.pinned (OpenSpec.ofChange packSubscribesWrong)

/-- 'kiosklaw18.PackSubacks': WHATEVER THE INPUT: true; the input reads as it did. -/
def packSubacksSpec : ChangeSpec := { name := "packSubacks", fn := fun _ => fun
  | [d] => { results := [.lit (.bool true)], args := [d] }
  | _ => none }
def packSubacksRow : OpenClaim := { program := "ytkcdkjpmbjcmdaadoor", sum := "2c37177c38085c10010fdc52537b69d20fbb82f71fba43ad4af28922dcec6820", func := "kiosk/kiosklaw18.PackSubacks", spec := "packSubacks", inPlace := ["internal/bytealg.IndexByteString", "internal/bytealg.IndexString"], named := ["unicode/utf8.first", "unicode/utf8.acceptRanges", "internal/bytealg.MaxLen"], apart := false, laid := [("unicode/utf8.acceptRanges", laid_unicode_utf8_acceptRanges), ("unicode/utf8.first", laid_unicode_utf8_first)] }
def PackSubacksSaid : Prop := packSubacksRow.holds Tryd.pinned (OpenSpec.ofChange packSubacksSpec)

/-- ITS FALSE NEIGHBOUR: 'it returns false'. Refute it at one input. -/
def packSubacksWrong : ChangeSpec := { name := "packSubacks", fn := fun _ => fun
  | [d] => { results := [.lit (.bool false)], args := [d] }
  | _ => none }
def PackSubacksWrongFalsely : Prop := packSubacksRow.holds Tryd.pinned (OpenSpec.ofChange packSubacksWrong)

/-- 'kiosklaw18.PackUnsubscribes': WHATEVER THE INPUT: true; the input reads as it did. -/
def packUnsubscribesSpec : ChangeSpec := { name := "packUnsubscribes", fn := fun _ => fun
  | [d] => { results := [.lit (.bool true)], args := [d] }
  | _ => none }
def packUnsubscribesRow : OpenClaim := { program := "ytkcdkjpmbjcmdaadoor", sum := "2c37177c38085c10010fdc52537b69d20fbb82f71fba43ad4af28922dcec6820", func := "kiosk/kiosklaw18.PackUnsubscribes", spec := "packUnsubscribes", inPlace := ["internal/bytealg.IndexByteString", "internal/bytealg.IndexString"], named := ["unicode/utf8.first", "unicode/utf8.acceptRanges", "internal/bytealg.MaxLen"], apart := false, laid := [("unicode/utf8.acceptRanges", laid_unicode_utf8_acceptRanges), ("unicode/utf8.first", laid_unicode_utf8_first)] }
def PackUnsubscribesSaid : Prop := packUnsubscribesRow.holds Tryd.pinned (OpenSpec.ofChange packUnsubscribesSpec)

/-- ITS FALSE NEIGHBOUR: 'it returns false'. Refute it at one input. -/
def packUnsubscribesWrong : ChangeSpec := { name := "packUnsubscribes", fn := fun _ => fun
  | [d] => { results := [.lit (.bool false)], args := [d] }
  | _ => none }
def PackUnsubscribesWrongFalsely : Prop := packUnsubscribesRow.holds Tryd.pinned (OpenSpec.ofChange packUnsubscribesWrong)

/-- 'kiosklaw18.PackUnsubacks': WHATEVER THE INPUT: true; the input reads as it did. -/
def packUnsubacksSpec : ChangeSpec := { name := "packUnsubacks", fn := fun _ => fun
  | [d] => { results := [.lit (.bool true)], args := [d] }
  | _ => none }
def packUnsubacksRow : OpenClaim := { program := "ytkcdkjpmbjcmdaadoor", sum := "2c37177c38085c10010fdc52537b69d20fbb82f71fba43ad4af28922dcec6820", func := "kiosk/kiosklaw18.PackUnsubacks", spec := "packUnsubacks", inPlace := ["internal/bytealg.IndexByteString", "internal/bytealg.IndexString"], named := ["unicode/utf8.first", "unicode/utf8.acceptRanges", "internal/bytealg.MaxLen"], apart := false, laid := [("unicode/utf8.acceptRanges", laid_unicode_utf8_acceptRanges), ("unicode/utf8.first", laid_unicode_utf8_first)] }
def PackUnsubacksSaid : Prop := packUnsubacksRow.holds Tryd.pinned (OpenSpec.ofChange packUnsubacksSpec)

/-- ITS FALSE NEIGHBOUR: 'it returns false'. Refute it at one input. -/
def packUnsubacksWrong : ChangeSpec := { name := "packUnsubacks", fn := fun _ => fun
  | [d] => { results := [.lit (.bool false)], args := [d] }
  | _ => none }
def PackUnsubacksWrongFalsely : Prop := packUnsubacksRow.holds Tryd.pinned (OpenSpec.ofChange packUnsubacksWrong)

/-- 'kiosklaw18.PackPings': WHATEVER THE INPUT: true; the input reads as it did. -/
def packPingsSpec : ChangeSpec := { name := "packPings", fn := fun _ => fun
  | [d] => { results := [.lit (.bool true)], args := [d] }
  | _ => none }
def packPingsRow : OpenClaim := { program := "ytkcdkjpmbjcmdaadoor", sum := "2c37177c38085c10010fdc52537b69d20fbb82f71fba43ad4af28922dcec6820", func := "kiosk/kiosklaw18.PackPings", spec := "packPings", inPlace := ["internal/bytealg.IndexByteString", "internal/bytealg.IndexString"], named := ["unicode/utf8.first", "unicode/utf8.acceptRanges", "internal/bytealg.MaxLen"], apart := false, laid := [("unicode/utf8.acceptRanges", laid_unicode_utf8_acceptRanges), ("unicode/utf8.first", laid_unicode_utf8_first)] }
def PackPingsSaid : Prop := packPingsRow.holds Tryd.pinned (OpenSpec.ofChange packPingsSpec)

/-- ITS FALSE NEIGHBOUR: 'it returns false'. Refute it at one input. -/
def packPingsWrong : ChangeSpec := { name := "packPings", fn := fun _ => fun
  | [d] => { results := [.lit (.bool false)], args := [d] }
  | _ => none }
def PackPingsWrongFalsely : Prop := packPingsRow.holds Tryd.pinned (OpenSpec.ofChange packPingsWrong)

/-- 'kiosklaw18.PackPongs': WHATEVER THE INPUT: true; the input reads as it did. -/
def packPongsSpec : ChangeSpec := { name := "packPongs", fn := fun _ => fun
  | [d] => { results := [.lit (.bool true)], args := [d] }
  | _ => none }
def packPongsRow : OpenClaim := { program := "ytkcdkjpmbjcmdaadoor", sum := "2c37177c38085c10010fdc52537b69d20fbb82f71fba43ad4af28922dcec6820", func := "kiosk/kiosklaw18.PackPongs", spec := "packPongs", inPlace := ["internal/bytealg.IndexByteString", "internal/bytealg.IndexString"], named := ["unicode/utf8.first", "unicode/utf8.acceptRanges", "internal/bytealg.MaxLen"], apart := false, laid := [("unicode/utf8.acceptRanges", laid_unicode_utf8_acceptRanges), ("unicode/utf8.first", laid_unicode_utf8_first)] }
def PackPongsSaid : Prop := packPongsRow.holds Tryd.pinned (OpenSpec.ofChange packPongsSpec)

/-- ITS FALSE NEIGHBOUR: 'it returns false'. Refute it at one input. -/
def packPongsWrong : ChangeSpec := { name := "packPongs", fn := fun _ => fun
  | [d] => { results := [.lit (.bool false)], args := [d] }
  | _ => none }
def PackPongsWrongFalsely : Prop := packPongsRow.holds Tryd.pinned (OpenSpec.ofChange packPongsWrong)

/-- 'kiosklaw18.PackByes': WHATEVER THE INPUT: true; the input reads as it did. -/
def packByesSpec : ChangeSpec := { name := "packByes", fn := fun _ => fun
  | [d] => { results := [.lit (.bool true)], args := [d] }
  | _ => none }
def packByesRow : OpenClaim := { program := "ytkcdkjpmbjcmdaadoor", sum := "2c37177c38085c10010fdc52537b69d20fbb82f71fba43ad4af28922dcec6820", func := "kiosk/kiosklaw18.PackByes", spec := "packByes", inPlace := ["internal/bytealg.IndexByteString", "internal/bytealg.IndexString"], named := ["unicode/utf8.first", "unicode/utf8.acceptRanges", "internal/bytealg.MaxLen"], apart := false, laid := [("unicode/utf8.acceptRanges", laid_unicode_utf8_acceptRanges), ("unicode/utf8.first", laid_unicode_utf8_first)] }
def PackByesSaid : Prop := packByesRow.holds Tryd.pinned (OpenSpec.ofChange packByesSpec)

/-- ITS FALSE NEIGHBOUR: 'it returns false'. Refute it at one input. -/
def packByesWrong : ChangeSpec := { name := "packByes", fn := fun _ => fun
  | [d] => { results := [.lit (.bool false)], args := [d] }
  | _ => none }
def PackByesWrongFalsely : Prop := packByesRow.holds Tryd.pinned (OpenSpec.ofChange packByesWrong)

/-- 'kiosklaw19.StreamFeeds': WHATEVER THE INPUT: true; the input reads as it did. -/
def streamFeedsSpec : ChangeSpec := { name := "streamFeeds", fn := fun _ => fun
  | [d] => { results := [.lit (.bool true)], args := [d] }
  | _ => none }
def streamFeedsRow : OpenClaim := { program := "ytkcdkjpmbjcmdaadoor", sum := "2c37177c38085c10010fdc52537b69d20fbb82f71fba43ad4af28922dcec6820", func := "kiosk/kiosklaw19.StreamFeeds", spec := "streamFeeds", inPlace := ["internal/bytealg.IndexByteString", "internal/bytealg.IndexString"], named := ["unicode/utf8.first", "unicode/utf8.acceptRanges", "internal/bytealg.MaxLen"], apart := false, laid := [("unicode/utf8.acceptRanges", laid_unicode_utf8_acceptRanges), ("unicode/utf8.first", laid_unicode_utf8_first)] }
def StreamFeedsSaid : Prop := streamFeedsRow.holds Tryd.pinned (OpenSpec.ofChange streamFeedsSpec)

/-- ITS FALSE NEIGHBOUR: 'it returns false'. Refute it at one input. -/
def streamFeedsWrong : ChangeSpec := { name := "streamFeeds", fn := fun _ => fun
  | [d] => { results := [.lit (.bool false)], args := [d] }
  | _ => none }
def StreamFeedsWrongFalsely : Prop := streamFeedsRow.holds Tryd.pinned (OpenSpec.ofChange streamFeedsWrong)

/-- 'kiosklaw19.StreamParts': WHATEVER THE INPUT: true; the input reads as it did. -/
def streamPartsSpec : ChangeSpec := { name := "streamParts", fn := fun _ => fun
  | [d] => { results := [.lit (.bool true)], args := [d] }
  | _ => none }
def streamPartsRow : OpenClaim := { program := "ytkcdkjpmbjcmdaadoor", sum := "2c37177c38085c10010fdc52537b69d20fbb82f71fba43ad4af28922dcec6820", func := "kiosk/kiosklaw19.StreamParts", spec := "streamParts", inPlace := ["internal/bytealg.IndexByteString", "internal/bytealg.IndexString"], named := ["unicode/utf8.first", "unicode/utf8.acceptRanges", "internal/bytealg.MaxLen"], apart := false, laid := [("unicode/utf8.acceptRanges", laid_unicode_utf8_acceptRanges), ("unicode/utf8.first", laid_unicode_utf8_first)] }
def StreamPartsSaid : Prop := streamPartsRow.holds Tryd.pinned (OpenSpec.ofChange streamPartsSpec)

/-- ITS FALSE NEIGHBOUR: 'it returns false'. Refute it at one input. -/
def streamPartsWrong : ChangeSpec := { name := "streamParts", fn := fun _ => fun
  | [d] => { results := [.lit (.bool false)], args := [d] }
  | _ => none }
def StreamPartsWrongFalsely : Prop := streamPartsRow.holds Tryd.pinned (OpenSpec.ofChange streamPartsWrong)

/- THE SECOND FORM. 'bulk': how many values and letters a reading holds, each counted each time it is reached (what is shared counts as often as it is met; a slice's spare places count too). A statement '..UptoSaid' is the law's where the arguments, and the package variables that the reading takes, are together of bulk at most 1048576: NARROWER than '..Said'. Prove '..Said' where nothing that the law and all that it calls make is longer than what came in: it says more and counts as full. Else prove '..UptoSaid'. A law counts once. -/
mutual
def uptoBulk {H : Type} : DataW H → Nat
  | .lit (.string bytes) => bytes.length + 1
  | .lit _ => 1
  | .nil => 1
  | .ptr d => uptoBulk d + 1
  | .slice elems spare => uptoBulkAll elems + uptoBulkAll spare + 1
  | .agg parts => uptoBulkAll parts + 1
  | .iface _ d => uptoBulk d + 1
  | .map entries => uptoBulkEntries entries + 1
  | .held _ => 1
def uptoBulkAll {H : Type} : List (DataW H) → Nat
  | [] => 0
  | d :: r => uptoBulk d + uptoBulkAll r
def uptoBulkEntries {H : Type} : List (Lit × DataW H) → Nat
  | [] => 0
  | x :: r => uptoBulkEntry x + uptoBulkEntries r
def uptoBulkEntry {H : Type} : Lit × DataW H → Nat
  | (.string bytes, d) => bytes.length + uptoBulk d + 1
  | (_, d) => uptoBulk d + 1
 end
def uptoSmall : (H : Type) → List (DataW H) → Bool := fun _ ds => decide (uptoBulkAll ds ≤ 1048576)
def OpenSpec.upto (s : _root_.Go.ChangeSpec) : _root_.Go.OpenSpec := { _root_.Go.OpenSpec.ofChange s with cond := some uptoSmall }

/-- 'kiosklaw18.PackBytes', WHERE WHAT IT READS IS OF BULK AT MOST 1048576: true; the input reads as it did. -/
def packBytesUptoRow : OpenClaim := { program := "ytkcdkjpmbjcmdaadoor", sum := "2c37177c38085c10010fdc52537b69d20fbb82f71fba43ad4af28922dcec6820", func := "kiosk/kiosklaw18.PackBytes", spec := "packBytes", inPlace := ["internal/bytealg.IndexByteString", "internal/bytealg.IndexString"], named := ["unicode/utf8.first", "unicode/utf8.acceptRanges", "internal/bytealg.MaxLen"], apart := false, laid := [("unicode/utf8.acceptRanges", laid_unicode_utf8_acceptRanges), ("unicode/utf8.first", laid_unicode_utf8_first)], narrowed := true }
def PackBytesUptoSaid : Prop := packBytesUptoRow.holds Tryd.pinned (OpenSpec.upto packBytesSpec)

/-- 'kiosklaw18.PackParses', WHERE WHAT IT READS IS OF BULK AT MOST 1048576: true; the input reads as it did. -/
def packParsesUptoRow : OpenClaim := { program := "ytkcdkjpmbjcmdaadoor", sum := "2c37177c38085c10010fdc52537b69d20fbb82f71fba43ad4af28922dcec6820", func := "kiosk/kiosklaw18.PackParses", spec := "packParses", inPlace := ["internal/bytealg.IndexByteString", "internal/bytealg.IndexString"], named := ["unicode/utf8.first", "unicode/utf8.acceptRanges", "internal/bytealg.MaxLen"], apart := false, laid := [("unicode/utf8.acceptRanges", laid_unicode_utf8_acceptRanges), ("unicode/utf8.first", laid_unicode_utf8_first)], narrowed := true }
def PackParsesUptoSaid : Prop := packParsesUptoRow.holds Tryd.pinned (OpenSpec.upto packParsesSpec)

/-- 'kiosklaw18.PackBack', WHERE WHAT IT READS IS OF BULK AT MOST 1048576: true; the input reads as it did. -/
def packBackUptoRow : OpenClaim := { program := "ytkcdkjpmbjcmdaadoor", sum := "2c37177c38085c10010fdc52537b69d20fbb82f71fba43ad4af28922dcec6820", func := "kiosk/kiosklaw18.PackBack", spec := "packBack", inPlace := ["internal/bytealg.IndexByteString", "internal/bytealg.IndexString"], named := ["unicode/utf8.first", "unicode/utf8.acceptRanges", "internal/bytealg.MaxLen"], apart := false, laid := [("unicode/utf8.acceptRanges", laid_unicode_utf8_acceptRanges), ("unicode/utf8.first", laid_unicode_utf8_first)], narrowed := true }
def PackBackUptoSaid : Prop := packBackUptoRow.holds Tryd.pinned (OpenSpec.upto packBackSpec)

/-- 'kiosklaw18.PackConnects', WHERE WHAT IT READS IS OF BULK AT MOST 1048576: true; the input reads as it did. -/
def packConnectsUptoRow : OpenClaim := { program := "ytkcdkjpmbjcmdaadoor", sum := "2c37177c38085c10010fdc52537b69d20fbb82f71fba43ad4af28922dcec6820", func := "kiosk/kiosklaw18.PackConnects", spec := "packConnects", inPlace := ["internal/bytealg.IndexByteString", "internal/bytealg.IndexString"], named := ["unicode/utf8.first", "unicode/utf8.acceptRanges", "internal/bytealg.MaxLen"], apart := false, laid := [("unicode/utf8.acceptRanges", laid_unicode_utf8_acceptRanges), ("unicode/utf8.first", laid_unicode_utf8_first)], narrowed := true }
def PackConnectsUptoSaid : Prop := packConnectsUptoRow.holds Tryd.pinned (OpenSpec.upto packConnectsSpec)

/-- 'kiosklaw18.PackConnacks', WHERE WHAT IT READS IS OF BULK AT MOST 1048576: true; the input reads as it did. -/
def packConnacksUptoRow : OpenClaim := { program := "ytkcdkjpmbjcmdaadoor", sum := "2c37177c38085c10010fdc52537b69d20fbb82f71fba43ad4af28922dcec6820", func := "kiosk/kiosklaw18.PackConnacks", spec := "packConnacks", inPlace := ["internal/bytealg.IndexByteString", "internal/bytealg.IndexString"], named := ["unicode/utf8.first", "unicode/utf8.acceptRanges", "internal/bytealg.MaxLen"], apart := false, laid := [("unicode/utf8.acceptRanges", laid_unicode_utf8_acceptRanges), ("unicode/utf8.first", laid_unicode_utf8_first)], narrowed := true }
def PackConnacksUptoSaid : Prop := packConnacksUptoRow.holds Tryd.pinned (OpenSpec.upto packConnacksSpec)

/-- 'kiosklaw18.PackPublishes', WHERE WHAT IT READS IS OF BULK AT MOST 1048576: true; the input reads as it did. -/
def packPublishesUptoRow : OpenClaim := { program := "ytkcdkjpmbjcmdaadoor", sum := "2c37177c38085c10010fdc52537b69d20fbb82f71fba43ad4af28922dcec6820", func := "kiosk/kiosklaw18.PackPublishes", spec := "packPublishes", inPlace := ["internal/bytealg.IndexByteString", "internal/bytealg.IndexString"], named := ["unicode/utf8.first", "unicode/utf8.acceptRanges", "internal/bytealg.MaxLen"], apart := false, laid := [("unicode/utf8.acceptRanges", laid_unicode_utf8_acceptRanges), ("unicode/utf8.first", laid_unicode_utf8_first)], narrowed := true }
def PackPublishesUptoSaid : Prop := packPublishesUptoRow.holds Tryd.pinned (OpenSpec.upto packPublishesSpec)

/-- 'kiosklaw18.PackPubacks', WHERE WHAT IT READS IS OF BULK AT MOST 1048576: true; the input reads as it did. -/
def packPubacksUptoRow : OpenClaim := { program := "ytkcdkjpmbjcmdaadoor", sum := "2c37177c38085c10010fdc52537b69d20fbb82f71fba43ad4af28922dcec6820", func := "kiosk/kiosklaw18.PackPubacks", spec := "packPubacks", inPlace := ["internal/bytealg.IndexByteString", "internal/bytealg.IndexString"], named := ["unicode/utf8.first", "unicode/utf8.acceptRanges", "internal/bytealg.MaxLen"], apart := false, laid := [("unicode/utf8.acceptRanges", laid_unicode_utf8_acceptRanges), ("unicode/utf8.first", laid_unicode_utf8_first)], narrowed := true }
def PackPubacksUptoSaid : Prop := packPubacksUptoRow.holds Tryd.pinned (OpenSpec.upto packPubacksSpec)

/-- 'kiosklaw18.PackPubrecs', WHERE WHAT IT READS IS OF BULK AT MOST 1048576: true; the input reads as it did. -/
def packPubrecsUptoRow : OpenClaim := { program := "ytkcdkjpmbjcmdaadoor", sum := "2c37177c38085c10010fdc52537b69d20fbb82f71fba43ad4af28922dcec6820", func := "kiosk/kiosklaw18.PackPubrecs", spec := "packPubrecs", inPlace := ["internal/bytealg.IndexByteString", "internal/bytealg.IndexString"], named := ["unicode/utf8.first", "unicode/utf8.acceptRanges", "internal/bytealg.MaxLen"], apart := false, laid := [("unicode/utf8.acceptRanges", laid_unicode_utf8_acceptRanges), ("unicode/utf8.first", laid_unicode_utf8_first)], narrowed := true }
def PackPubrecsUptoSaid : Prop := packPubrecsUptoRow.holds Tryd.pinned (OpenSpec.upto packPubrecsSpec)

/-- 'kiosklaw18.PackPubrels', WHERE WHAT IT READS IS OF BULK AT MOST 1048576: true; the input reads as it did. -/
def packPubrelsUptoRow : OpenClaim := { program := "ytkcdkjpmbjcmdaadoor", sum := "2c37177c38085c10010fdc52537b69d20fbb82f71fba43ad4af28922dcec6820", func := "kiosk/kiosklaw18.PackPubrels", spec := "packPubrels", inPlace := ["internal/bytealg.IndexByteString", "internal/bytealg.IndexString"], named := ["unicode/utf8.first", "unicode/utf8.acceptRanges", "internal/bytealg.MaxLen"], apart := false, laid := [("unicode/utf8.acceptRanges", laid_unicode_utf8_acceptRanges), ("unicode/utf8.first", laid_unicode_utf8_first)], narrowed := true }
def PackPubrelsUptoSaid : Prop := packPubrelsUptoRow.holds Tryd.pinned (OpenSpec.upto packPubrelsSpec)

/-- 'kiosklaw18.PackPubcomps', WHERE WHAT IT READS IS OF BULK AT MOST 1048576: true; the input reads as it did. -/
def packPubcompsUptoRow : OpenClaim := { program := "ytkcdkjpmbjcmdaadoor", sum := "2c37177c38085c10010fdc52537b69d20fbb82f71fba43ad4af28922dcec6820", func := "kiosk/kiosklaw18.PackPubcomps", spec := "packPubcomps", inPlace := ["internal/bytealg.IndexByteString", "internal/bytealg.IndexString"], named := ["unicode/utf8.first", "unicode/utf8.acceptRanges", "internal/bytealg.MaxLen"], apart := false, laid := [("unicode/utf8.acceptRanges", laid_unicode_utf8_acceptRanges), ("unicode/utf8.first", laid_unicode_utf8_first)], narrowed := true }
def PackPubcompsUptoSaid : Prop := packPubcompsUptoRow.holds Tryd.pinned (OpenSpec.upto packPubcompsSpec)

/-- 'kiosklaw18.PackSubscribes', WHERE WHAT IT READS IS OF BULK AT MOST 1048576: true; the input reads as it did. -/
def packSubscribesUptoRow : OpenClaim := { program := "ytkcdkjpmbjcmdaadoor", sum := "2c37177c38085c10010fdc52537b69d20fbb82f71fba43ad4af28922dcec6820", func := "kiosk/kiosklaw18.PackSubscribes", spec := "packSubscribes", inPlace := ["internal/bytealg.IndexByteString", "internal/bytealg.IndexString"], named := ["unicode/utf8.first", "unicode/utf8.acceptRanges", "internal/bytealg.MaxLen"], apart := false, laid := [("unicode/utf8.acceptRanges", laid_unicode_utf8_acceptRanges), ("unicode/utf8.first", laid_unicode_utf8_first)], narrowed := true }
def PackSubscribesUptoSaid : Prop := packSubscribesUptoRow.holds Tryd.pinned (OpenSpec.upto packSubscribesSpec)

/-- 'kiosklaw18.PackSubacks', WHERE WHAT IT READS IS OF BULK AT MOST 1048576: true; the input reads as it did. -/
def packSubacksUptoRow : OpenClaim := { program := "ytkcdkjpmbjcmdaadoor", sum := "2c37177c38085c10010fdc52537b69d20fbb82f71fba43ad4af28922dcec6820", func := "kiosk/kiosklaw18.PackSubacks", spec := "packSubacks", inPlace := ["internal/bytealg.IndexByteString", "internal/bytealg.IndexString"], named := ["unicode/utf8.first", "unicode/utf8.acceptRanges", "internal/bytealg.MaxLen"], apart := false, laid := [("unicode/utf8.acceptRanges", laid_unicode_utf8_acceptRanges), ("unicode/utf8.first", laid_unicode_utf8_first)], narrowed := true }
def PackSubacksUptoSaid : Prop := packSubacksUptoRow.holds Tryd.pinned (OpenSpec.upto packSubacksSpec)

/-- 'kiosklaw18.PackUnsubscribes', WHERE WHAT IT READS IS OF BULK AT MOST 1048576: true; the input reads as it did. -/
def packUnsubscribesUptoRow : OpenClaim := { program := "ytkcdkjpmbjcmdaadoor", sum := "2c37177c38085c10010fdc52537b69d20fbb82f71fba43ad4af28922dcec6820", func := "kiosk/kiosklaw18.PackUnsubscribes", spec := "packUnsubscribes", inPlace := ["internal/bytealg.IndexByteString", "internal/bytealg.IndexString"], named := ["unicode/utf8.first", "unicode/utf8.acceptRanges", "internal/bytealg.MaxLen"], apart := false, laid := [("unicode/utf8.acceptRanges", laid_unicode_utf8_acceptRanges), ("unicode/utf8.first", laid_unicode_utf8_first)], narrowed := true }
def PackUnsubscribesUptoSaid : Prop := packUnsubscribesUptoRow.holds Tryd.pinned (OpenSpec.upto packUnsubscribesSpec)

/-- 'kiosklaw18.PackUnsubacks', WHERE WHAT IT READS IS OF BULK AT MOST 1048576: true; the input reads as it did. -/
def packUnsubacksUptoRow : OpenClaim := { program := "ytkcdkjpmbjcmdaadoor", sum := "2c37177c38085c10010fdc52537b69d20fbb82f71fba43ad4af28922dcec6820", func := "kiosk/kiosklaw18.PackUnsubacks", spec := "packUnsubacks", inPlace := ["internal/bytealg.IndexByteString", "internal/bytealg.IndexString"], named := ["unicode/utf8.first", "unicode/utf8.acceptRanges", "internal/bytealg.MaxLen"], apart := false, laid := [("unicode/utf8.acceptRanges", laid_unicode_utf8_acceptRanges), ("unicode/utf8.first", laid_unicode_utf8_first)], narrowed := true }
def PackUnsubacksUptoSaid : Prop := packUnsubacksUptoRow.holds Tryd.pinned (OpenSpec.upto packUnsubacksSpec)

/-- 'kiosklaw18.PackPings', WHERE WHAT IT READS IS OF BULK AT MOST 1048576: true; the input reads as it did. -/
def packPingsUptoRow : OpenClaim := { program := "ytkcdkjpmbjcmdaadoor", sum := "2c37177c38085c10010fdc52537b69d20fbb82f71fba43ad4af28922dcec6820", func := "kiosk/kiosklaw18.PackPings", spec := "packPings", inPlace := ["internal/bytealg.IndexByteString", "internal/bytealg.IndexString"], named := ["unicode/utf8.first", "unicode/utf8.acceptRanges", "internal/bytealg.MaxLen"], apart := false, laid := [("unicode/utf8.acceptRanges", laid_unicode_utf8_acceptRanges), ("unicode/utf8.first", laid_unicode_utf8_first)], narrowed := true }
def PackPingsUptoSaid : Prop := packPingsUptoRow.holds Tryd.pinned (OpenSpec.upto packPingsSpec)

/-- 'kiosklaw18.PackPongs', WHERE WHAT IT READS IS OF BULK AT MOST 1048576: true; the input reads as it did. -/
def packPongsUptoRow : OpenClaim := { program := "ytkcdkjpmbjcmdaadoor", sum := "2c37177c38085c10010fdc52537b69d20fbb82f71fba43ad4af28922dcec6820", func := "kiosk/kiosklaw18.PackPongs", spec := "packPongs", inPlace := ["internal/bytealg.IndexByteString", "internal/bytealg.IndexString"], named := ["unicode/utf8.first", "unicode/utf8.acceptRanges", "internal/bytealg.MaxLen"], apart := false, laid := [("unicode/utf8.acceptRanges", laid_unicode_utf8_acceptRanges), ("unicode/utf8.first", laid_unicode_utf8_first)], narrowed := true }
def PackPongsUptoSaid : Prop := packPongsUptoRow.holds Tryd.pinned (OpenSpec.upto packPongsSpec)

/-- 'kiosklaw18.PackByes', WHERE WHAT IT READS IS OF BULK AT MOST 1048576: true; the input reads as it did. -/
def packByesUptoRow : OpenClaim := { program := "ytkcdkjpmbjcmdaadoor", sum := "2c37177c38085c10010fdc52537b69d20fbb82f71fba43ad4af28922dcec6820", func := "kiosk/kiosklaw18.PackByes", spec := "packByes", inPlace := ["internal/bytealg.IndexByteString", "internal/bytealg.IndexString"], named := ["unicode/utf8.first", "unicode/utf8.acceptRanges", "internal/bytealg.MaxLen"], apart := false, laid := [("unicode/utf8.acceptRanges", laid_unicode_utf8_acceptRanges), ("unicode/utf8.first", laid_unicode_utf8_first)], narrowed := true }
def PackByesUptoSaid : Prop := packByesUptoRow.holds Tryd.pinned (OpenSpec.upto packByesSpec)

/-- 'kiosklaw19.StreamFeeds', WHERE WHAT IT READS IS OF BULK AT MOST 1048576: true; the input reads as it did. -/
def streamFeedsUptoRow : OpenClaim := { program := "ytkcdkjpmbjcmdaadoor", sum := "2c37177c38085c10010fdc52537b69d20fbb82f71fba43ad4af28922dcec6820", func := "kiosk/kiosklaw19.StreamFeeds", spec := "streamFeeds", inPlace := ["internal/bytealg.IndexByteString", "internal/bytealg.IndexString"], named := ["unicode/utf8.first", "unicode/utf8.acceptRanges", "internal/bytealg.MaxLen"], apart := false, laid := [("unicode/utf8.acceptRanges", laid_unicode_utf8_acceptRanges), ("unicode/utf8.first", laid_unicode_utf8_first)], narrowed := true }
def StreamFeedsUptoSaid : Prop := streamFeedsUptoRow.holds Tryd.pinned (OpenSpec.upto streamFeedsSpec)

/-- 'kiosklaw19.StreamParts', WHERE WHAT IT READS IS OF BULK AT MOST 1048576: true; the input reads as it did. -/
def streamPartsUptoRow : OpenClaim := { program := "ytkcdkjpmbjcmdaadoor", sum := "2c37177c38085c10010fdc52537b69d20fbb82f71fba43ad4af28922dcec6820", func := "kiosk/kiosklaw19.StreamParts", spec := "streamParts", inPlace := ["internal/bytealg.IndexByteString", "internal/bytealg.IndexString"], named := ["unicode/utf8.first", "unicode/utf8.acceptRanges", "internal/bytealg.MaxLen"], apart := false, laid := [("unicode/utf8.acceptRanges", laid_unicode_utf8_acceptRanges), ("unicode/utf8.first", laid_unicode_utf8_first)], narrowed := true }
def StreamPartsUptoSaid : Prop := streamPartsUptoRow.holds Tryd.pinned (OpenSpec.upto streamPartsSpec)

end Rows
end Go.Proofs.YtkcdkjpmbjcmdaaDoor
