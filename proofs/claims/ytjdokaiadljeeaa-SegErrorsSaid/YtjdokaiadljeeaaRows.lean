/-
  No cell of these rows narrows 'for every input' (looked for: loops, veiled, ifaces, maps, wideKeys, modest, calm, conditions, laid).
  DERIVED. THE GIVEN ROWS OF THIS SEAT. 15 by the template 'for every input the law returns true; each argument reads behind the call as it read before'; 0 by the template 'total and deterministic' (their statements: YtjdokaiadljeeaaTotals.lean).
  GIVEN WITH THE SEED: the statements are not yours to turn. If you find one false, say at which input.
  Laid BY PROGRAM, IN A SANDBOX (cutbox-rows.mjs): the forced cells as the released guide's own fill.sh prints them over the translation 3084b0956e933d80… (all of the seat's roots in one cut). By AI agents, Wed Nov 11 2026. No macro, syntax, notation, axiom, sorry.
-/
import Derived.Test.YtjdokaiadljeeaaChecked
import GoSem.Claim
import GoSem.ClaimJoined
import GoSem.ClaimMapViews
import Derived.JoinedTies
import Derived.KernelRfl
namespace Go.Proofs.Ytjdokaiadljeeaa
/- THE CELL 'sum', in the pinned program and in every row, IS THE sha256 OF THE DUMP (.gsa) THAT YtjdokaiadljeeaaProg.lean LOADS. Nothing in Lean hashes anything: it is a label: what it is worth is what the hold of that sum in a sandbox is worth. -/
noncomputable def Try.pinned : Pinned := { name := "ytjdokaiadljeeaa", sum := "3084b0956e933d8052b2b16ef86d0df2466223f61dc8f06be64f25c929228883", checked := Try.checked }
namespace Rows
def none {H : Type} : Left H := { results := [], args := [] }

/-- 'kiosklaw5.CrcSums': WHATEVER THE INPUT: true; the input reads as it did. -/
def crcSumsSpec : ChangeSpec := { name := "crcSums", fn := fun _ => fun
  | [d] => { results := [.lit (.bool true)], args := [d] }
  | _ => none }
def crcSumsRow : OpenClaim := { program := "ytjdokaiadljeeaa", sum := "3084b0956e933d8052b2b16ef86d0df2466223f61dc8f06be64f25c929228883", func := "kiosk/kiosklaw5.CrcSums", spec := "crcSums", apart := false }
def CrcSumsSaid : Prop := crcSumsRow.holds Try.pinned (OpenSpec.ofChange crcSumsSpec)

/-- ITS FALSE NEIGHBOUR: 'it returns false'. Refute it at one input. -/
def crcSumsWrong : ChangeSpec := { name := "crcSums", fn := fun _ => fun
  | [d] => { results := [.lit (.bool false)], args := [d] }
  | _ => none }
def CrcSumsWrongFalsely : Prop := crcSumsRow.holds Try.pinned (OpenSpec.ofChange crcSumsWrong)

/-- 'kiosklaw5.CrcParts': WHATEVER THE INPUT: true; the input reads as it did. -/
def crcPartsSpec : ChangeSpec := { name := "crcParts", fn := fun _ => fun
  | [d] => { results := [.lit (.bool true)], args := [d] }
  | _ => none }
def crcPartsRow : OpenClaim := { program := "ytjdokaiadljeeaa", sum := "3084b0956e933d8052b2b16ef86d0df2466223f61dc8f06be64f25c929228883", func := "kiosk/kiosklaw5.CrcParts", spec := "crcParts", apart := false }
def CrcPartsSaid : Prop := crcPartsRow.holds Try.pinned (OpenSpec.ofChange crcPartsSpec)

/-- ITS FALSE NEIGHBOUR: 'it returns false'. Refute it at one input. -/
def crcPartsWrong : ChangeSpec := { name := "crcParts", fn := fun _ => fun
  | [d] => { results := [.lit (.bool false)], args := [d] }
  | _ => none }
def CrcPartsWrongFalsely : Prop := crcPartsRow.holds Try.pinned (OpenSpec.ofChange crcPartsWrong)

/-- 'kiosklaw7.SumAdds': WHATEVER THE INPUT: true; the input reads as it did. -/
def sumAddsSpec : ChangeSpec := { name := "sumAdds", fn := fun _ => fun
  | [d] => { results := [.lit (.bool true)], args := [d] }
  | _ => none }
def sumAddsRow : OpenClaim := { program := "ytjdokaiadljeeaa", sum := "3084b0956e933d8052b2b16ef86d0df2466223f61dc8f06be64f25c929228883", func := "kiosk/kiosklaw7.SumAdds", spec := "sumAdds", apart := false }
def SumAddsSaid : Prop := sumAddsRow.holds Try.pinned (OpenSpec.ofChange sumAddsSpec)

/-- ITS FALSE NEIGHBOUR: 'it returns false'. Refute it at one input. -/
def sumAddsWrong : ChangeSpec := { name := "sumAdds", fn := fun _ => fun
  | [d] => { results := [.lit (.bool false)], args := [d] }
  | _ => none }
def SumAddsWrongFalsely : Prop := sumAddsRow.holds Try.pinned (OpenSpec.ofChange sumAddsWrong)

/-- 'kiosklaw7.SumParts': WHATEVER THE INPUT: true; the input reads as it did. -/
def sumPartsSpec : ChangeSpec := { name := "sumParts", fn := fun _ => fun
  | [d] => { results := [.lit (.bool true)], args := [d] }
  | _ => none }
def sumPartsRow : OpenClaim := { program := "ytjdokaiadljeeaa", sum := "3084b0956e933d8052b2b16ef86d0df2466223f61dc8f06be64f25c929228883", func := "kiosk/kiosklaw7.SumParts", spec := "sumParts", apart := false }
def SumPartsSaid : Prop := sumPartsRow.holds Try.pinned (OpenSpec.ofChange sumPartsSpec)

/-- ITS FALSE NEIGHBOUR: 'it returns false'. Refute it at one input. -/
def sumPartsWrong : ChangeSpec := { name := "sumParts", fn := fun _ => fun
  | [d] => { results := [.lit (.bool false)], args := [d] }
  | _ => none }
def SumPartsWrongFalsely : Prop := sumPartsRow.holds Try.pinned (OpenSpec.ofChange sumPartsWrong)

/-- 'kiosklaw7.SumTurns': WHATEVER THE INPUT: true; the input reads as it did. -/
def sumTurnsSpec : ChangeSpec := { name := "sumTurns", fn := fun _ => fun
  | [d] => { results := [.lit (.bool true)], args := [d] }
  | _ => none }
def sumTurnsRow : OpenClaim := { program := "ytjdokaiadljeeaa", sum := "3084b0956e933d8052b2b16ef86d0df2466223f61dc8f06be64f25c929228883", func := "kiosk/kiosklaw7.SumTurns", spec := "sumTurns", apart := false }
def SumTurnsSaid : Prop := sumTurnsRow.holds Try.pinned (OpenSpec.ofChange sumTurnsSpec)

/-- ITS FALSE NEIGHBOUR: 'it returns false'. Refute it at one input. -/
def sumTurnsWrong : ChangeSpec := { name := "sumTurns", fn := fun _ => fun
  | [d] => { results := [.lit (.bool false)], args := [d] }
  | _ => none }
def SumTurnsWrongFalsely : Prop := sumTurnsRow.holds Try.pinned (OpenSpec.ofChange sumTurnsWrong)

/-- 'kiosklaw11.IcmpReplies': WHATEVER THE INPUT: true; the input reads as it did. -/
def icmpRepliesSpec : ChangeSpec := { name := "icmpReplies", fn := fun _ => fun
  | [d] => { results := [.lit (.bool true)], args := [d] }
  | _ => none }
def icmpRepliesRow : OpenClaim := { program := "ytjdokaiadljeeaa", sum := "3084b0956e933d8052b2b16ef86d0df2466223f61dc8f06be64f25c929228883", func := "kiosk/kiosklaw11.IcmpReplies", spec := "icmpReplies", apart := false }
def IcmpRepliesSaid : Prop := icmpRepliesRow.holds Try.pinned (OpenSpec.ofChange icmpRepliesSpec)

/-- ITS FALSE NEIGHBOUR: 'it returns false'. Refute it at one input. -/
def icmpRepliesWrong : ChangeSpec := { name := "icmpReplies", fn := fun _ => fun
  | [d] => { results := [.lit (.bool false)], args := [d] }
  | _ => none }
def IcmpRepliesWrongFalsely : Prop := icmpRepliesRow.holds Try.pinned (OpenSpec.ofChange icmpRepliesWrong)

/-- 'kiosklaw11.IcmpEchoes': WHATEVER THE INPUT: true; the input reads as it did. -/
def icmpEchoesSpec : ChangeSpec := { name := "icmpEchoes", fn := fun _ => fun
  | [d] => { results := [.lit (.bool true)], args := [d] }
  | _ => none }
def icmpEchoesRow : OpenClaim := { program := "ytjdokaiadljeeaa", sum := "3084b0956e933d8052b2b16ef86d0df2466223f61dc8f06be64f25c929228883", func := "kiosk/kiosklaw11.IcmpEchoes", spec := "icmpEchoes", apart := false }
def IcmpEchoesSaid : Prop := icmpEchoesRow.holds Try.pinned (OpenSpec.ofChange icmpEchoesSpec)

/-- ITS FALSE NEIGHBOUR: 'it returns false'. Refute it at one input. -/
def icmpEchoesWrong : ChangeSpec := { name := "icmpEchoes", fn := fun _ => fun
  | [d] => { results := [.lit (.bool false)], args := [d] }
  | _ => none }
def IcmpEchoesWrongFalsely : Prop := icmpEchoesRow.holds Try.pinned (OpenSpec.ofChange icmpEchoesWrong)

/-- 'kiosklaw10.IpBytes': WHATEVER THE INPUT: true; the input reads as it did. -/
def ipBytesSpec : ChangeSpec := { name := "ipBytes", fn := fun _ => fun
  | [d] => { results := [.lit (.bool true)], args := [d] }
  | _ => none }
def ipBytesRow : OpenClaim := { program := "ytjdokaiadljeeaa", sum := "3084b0956e933d8052b2b16ef86d0df2466223f61dc8f06be64f25c929228883", func := "kiosk/kiosklaw10.IpBytes", spec := "ipBytes", apart := false }
def IpBytesSaid : Prop := ipBytesRow.holds Try.pinned (OpenSpec.ofChange ipBytesSpec)

/-- ITS FALSE NEIGHBOUR: 'it returns false'. Refute it at one input. -/
def ipBytesWrong : ChangeSpec := { name := "ipBytes", fn := fun _ => fun
  | [d] => { results := [.lit (.bool false)], args := [d] }
  | _ => none }
def IpBytesWrongFalsely : Prop := ipBytesRow.holds Try.pinned (OpenSpec.ofChange ipBytesWrong)

/-- 'kiosklaw10.IpParses': WHATEVER THE INPUT: true; the input reads as it did. -/
def ipParsesSpec : ChangeSpec := { name := "ipParses", fn := fun _ => fun
  | [d] => { results := [.lit (.bool true)], args := [d] }
  | _ => none }
def ipParsesRow : OpenClaim := { program := "ytjdokaiadljeeaa", sum := "3084b0956e933d8052b2b16ef86d0df2466223f61dc8f06be64f25c929228883", func := "kiosk/kiosklaw10.IpParses", spec := "ipParses", apart := false }
def IpParsesSaid : Prop := ipParsesRow.holds Try.pinned (OpenSpec.ofChange ipParsesSpec)

/-- ITS FALSE NEIGHBOUR: 'it returns false'. Refute it at one input. -/
def ipParsesWrong : ChangeSpec := { name := "ipParses", fn := fun _ => fun
  | [d] => { results := [.lit (.bool false)], args := [d] }
  | _ => none }
def IpParsesWrongFalsely : Prop := ipParsesRow.holds Try.pinned (OpenSpec.ofChange ipParsesWrong)

/-- 'kiosklaw10.IpBack': WHATEVER THE INPUT: true; the input reads as it did. -/
def ipBackSpec : ChangeSpec := { name := "ipBack", fn := fun _ => fun
  | [d] => { results := [.lit (.bool true)], args := [d] }
  | _ => none }
def ipBackRow : OpenClaim := { program := "ytjdokaiadljeeaa", sum := "3084b0956e933d8052b2b16ef86d0df2466223f61dc8f06be64f25c929228883", func := "kiosk/kiosklaw10.IpBack", spec := "ipBack", apart := false }
def IpBackSaid : Prop := ipBackRow.holds Try.pinned (OpenSpec.ofChange ipBackSpec)

/-- ITS FALSE NEIGHBOUR: 'it returns false'. Refute it at one input. -/
def ipBackWrong : ChangeSpec := { name := "ipBack", fn := fun _ => fun
  | [d] => { results := [.lit (.bool false)], args := [d] }
  | _ => none }
def IpBackWrongFalsely : Prop := ipBackRow.holds Try.pinned (OpenSpec.ofChange ipBackWrong)

/-- 'kiosklaw10.IpErrors': WHATEVER THE INPUT: true; the input reads as it did. -/
def ipErrorsSpec : ChangeSpec := { name := "ipErrors", fn := fun _ => fun
  | [d] => { results := [.lit (.bool true)], args := [d] }
  | _ => none }
def ipErrorsRow : OpenClaim := { program := "ytjdokaiadljeeaa", sum := "3084b0956e933d8052b2b16ef86d0df2466223f61dc8f06be64f25c929228883", func := "kiosk/kiosklaw10.IpErrors", spec := "ipErrors", apart := false }
def IpErrorsSaid : Prop := ipErrorsRow.holds Try.pinned (OpenSpec.ofChange ipErrorsSpec)

/-- ITS FALSE NEIGHBOUR: 'it returns false'. Refute it at one input. -/
def ipErrorsWrong : ChangeSpec := { name := "ipErrors", fn := fun _ => fun
  | [d] => { results := [.lit (.bool false)], args := [d] }
  | _ => none }
def IpErrorsWrongFalsely : Prop := ipErrorsRow.holds Try.pinned (OpenSpec.ofChange ipErrorsWrong)

/-- 'kiosklaw13.SegBytes': WHATEVER THE INPUT: true; the input reads as it did. -/
def segBytesSpec : ChangeSpec := { name := "segBytes", fn := fun _ => fun
  | [d] => { results := [.lit (.bool true)], args := [d] }
  | _ => none }
def segBytesRow : OpenClaim := { program := "ytjdokaiadljeeaa", sum := "3084b0956e933d8052b2b16ef86d0df2466223f61dc8f06be64f25c929228883", func := "kiosk/kiosklaw13.SegBytes", spec := "segBytes", apart := false }
def SegBytesSaid : Prop := segBytesRow.holds Try.pinned (OpenSpec.ofChange segBytesSpec)

/-- ITS FALSE NEIGHBOUR: 'it returns false'. Refute it at one input. -/
def segBytesWrong : ChangeSpec := { name := "segBytes", fn := fun _ => fun
  | [d] => { results := [.lit (.bool false)], args := [d] }
  | _ => none }
def SegBytesWrongFalsely : Prop := segBytesRow.holds Try.pinned (OpenSpec.ofChange segBytesWrong)

/-- 'kiosklaw13.SegParses': WHATEVER THE INPUT: true; the input reads as it did. -/
def segParsesSpec : ChangeSpec := { name := "segParses", fn := fun _ => fun
  | [d] => { results := [.lit (.bool true)], args := [d] }
  | _ => none }
def segParsesRow : OpenClaim := { program := "ytjdokaiadljeeaa", sum := "3084b0956e933d8052b2b16ef86d0df2466223f61dc8f06be64f25c929228883", func := "kiosk/kiosklaw13.SegParses", spec := "segParses", apart := false }
def SegParsesSaid : Prop := segParsesRow.holds Try.pinned (OpenSpec.ofChange segParsesSpec)

/-- ITS FALSE NEIGHBOUR: 'it returns false'. Refute it at one input. -/
def segParsesWrong : ChangeSpec := { name := "segParses", fn := fun _ => fun
  | [d] => { results := [.lit (.bool false)], args := [d] }
  | _ => none }
def SegParsesWrongFalsely : Prop := segParsesRow.holds Try.pinned (OpenSpec.ofChange segParsesWrong)

/-- 'kiosklaw13.SegBack': WHATEVER THE INPUT: true; the input reads as it did. -/
def segBackSpec : ChangeSpec := { name := "segBack", fn := fun _ => fun
  | [d] => { results := [.lit (.bool true)], args := [d] }
  | _ => none }
def segBackRow : OpenClaim := { program := "ytjdokaiadljeeaa", sum := "3084b0956e933d8052b2b16ef86d0df2466223f61dc8f06be64f25c929228883", func := "kiosk/kiosklaw13.SegBack", spec := "segBack", apart := false }
def SegBackSaid : Prop := segBackRow.holds Try.pinned (OpenSpec.ofChange segBackSpec)

/-- ITS FALSE NEIGHBOUR: 'it returns false'. Refute it at one input. -/
def segBackWrong : ChangeSpec := { name := "segBack", fn := fun _ => fun
  | [d] => { results := [.lit (.bool false)], args := [d] }
  | _ => none }
def SegBackWrongFalsely : Prop := segBackRow.holds Try.pinned (OpenSpec.ofChange segBackWrong)

/-- 'kiosklaw13.SegErrors': WHATEVER THE INPUT: true; the input reads as it did. -/
def segErrorsSpec : ChangeSpec := { name := "segErrors", fn := fun _ => fun
  | [d] => { results := [.lit (.bool true)], args := [d] }
  | _ => none }
def segErrorsRow : OpenClaim := { program := "ytjdokaiadljeeaa", sum := "3084b0956e933d8052b2b16ef86d0df2466223f61dc8f06be64f25c929228883", func := "kiosk/kiosklaw13.SegErrors", spec := "segErrors", apart := false }
def SegErrorsSaid : Prop := segErrorsRow.holds Try.pinned (OpenSpec.ofChange segErrorsSpec)

/-- ITS FALSE NEIGHBOUR: 'it returns false'. Refute it at one input. -/
def segErrorsWrong : ChangeSpec := { name := "segErrors", fn := fun _ => fun
  | [d] => { results := [.lit (.bool false)], args := [d] }
  | _ => none }
def SegErrorsWrongFalsely : Prop := segErrorsRow.holds Try.pinned (OpenSpec.ofChange segErrorsWrong)

/- THE SECOND FORM. 'bulk': how many values and letters a reading holds, each counted each time it is reached (what is shared counts as often as it is met; a slice's spare places count too). A statement '..UptoSaid' is the law's where the arguments, and the package variables that the reading takes, are together of bulk at most 1048576: NARROWER than '..Said'. Prove '..Said' where nothing that the law and all that it calls make is longer than what came in: it says more and counts as full. Else prove '..UptoSaid'. A law counts once. -/
mutual
def uptoBulk {H : Type} : DataW H → Nat
  | .lit (.string bytes) => bytes.length + 1
  | .lit _ => 1
  | .nil => 1
  | .ptr d => uptoBulk d + 1
  | .slice elems spare => uptoBulkAll elems + uptoBulkAll spare + 1
  | .agg parts => uptoBulkAll parts + 1
  | .iface _ d => uptoBulk d + 1
  | .map entries => uptoBulkEntries entries + 1
  | .held _ => 1
def uptoBulkAll {H : Type} : List (DataW H) → Nat
  | [] => 0
  | d :: r => uptoBulk d + uptoBulkAll r
def uptoBulkEntries {H : Type} : List (Lit × DataW H) → Nat
  | [] => 0
  | x :: r => uptoBulkEntry x + uptoBulkEntries r
def uptoBulkEntry {H : Type} : Lit × DataW H → Nat
  | (.string bytes, d) => bytes.length + uptoBulk d + 1
  | (_, d) => uptoBulk d + 1
 end
def uptoSmall : (H : Type) → List (DataW H) → Bool := fun _ ds => decide (uptoBulkAll ds ≤ 1048576)
def OpenSpec.upto (s : _root_.Go.ChangeSpec) : _root_.Go.OpenSpec := { _root_.Go.OpenSpec.ofChange s with cond := some uptoSmall }

/-- 'kiosklaw5.CrcSums', WHERE WHAT IT READS IS OF BULK AT MOST 1048576: true; the input reads as it did. -/
def crcSumsUptoRow : OpenClaim := { program := "ytjdokaiadljeeaa", sum := "3084b0956e933d8052b2b16ef86d0df2466223f61dc8f06be64f25c929228883", func := "kiosk/kiosklaw5.CrcSums", spec := "crcSums", apart := false, narrowed := true }
def CrcSumsUptoSaid : Prop := crcSumsUptoRow.holds Try.pinned (OpenSpec.upto crcSumsSpec)

/-- 'kiosklaw5.CrcParts', WHERE WHAT IT READS IS OF BULK AT MOST 1048576: true; the input reads as it did. -/
def crcPartsUptoRow : OpenClaim := { program := "ytjdokaiadljeeaa", sum := "3084b0956e933d8052b2b16ef86d0df2466223f61dc8f06be64f25c929228883", func := "kiosk/kiosklaw5.CrcParts", spec := "crcParts", apart := false, narrowed := true }
def CrcPartsUptoSaid : Prop := crcPartsUptoRow.holds Try.pinned (OpenSpec.upto crcPartsSpec)

/-- 'kiosklaw7.SumAdds', WHERE WHAT IT READS IS OF BULK AT MOST 1048576: true; the input reads as it did. -/
def sumAddsUptoRow : OpenClaim := { program := "ytjdokaiadljeeaa", sum := "3084b0956e933d8052b2b16ef86d0df2466223f61dc8f06be64f25c929228883", func := "kiosk/kiosklaw7.SumAdds", spec := "sumAdds", apart := false, narrowed := true }
def SumAddsUptoSaid : Prop := sumAddsUptoRow.holds Try.pinned (OpenSpec.upto sumAddsSpec)

/-- 'kiosklaw7.SumParts', WHERE WHAT IT READS IS OF BULK AT MOST 1048576: true; the input reads as it did. -/
def sumPartsUptoRow : OpenClaim := { program := "ytjdokaiadljeeaa", sum := "3084b0956e933d8052b2b16ef86d0df2466223f61dc8f06be64f25c929228883", func := "kiosk/kiosklaw7.SumParts", spec := "sumParts", apart := false, narrowed := true }
def SumPartsUptoSaid : Prop := sumPartsUptoRow.holds Try.pinned (OpenSpec.upto sumPartsSpec)

/-- 'kiosklaw7.SumTurns', WHERE WHAT IT READS IS OF BULK AT MOST 1048576: true; the input reads as it did. -/
def sumTurnsUptoRow : OpenClaim := { program := "ytjdokaiadljeeaa", sum := "3084b0956e933d8052b2b16ef86d0df2466223f61dc8f06be64f25c929228883", func := "kiosk/kiosklaw7.SumTurns", spec := "sumTurns", apart := false, narrowed := true }
def SumTurnsUptoSaid : Prop := sumTurnsUptoRow.holds Try.pinned (OpenSpec.upto sumTurnsSpec)

/-- 'kiosklaw11.IcmpReplies', WHERE WHAT IT READS IS OF BULK AT MOST 1048576: true; the input reads as it did. -/
def icmpRepliesUptoRow : OpenClaim := { program := "ytjdokaiadljeeaa", sum := "3084b0956e933d8052b2b16ef86d0df2466223f61dc8f06be64f25c929228883", func := "kiosk/kiosklaw11.IcmpReplies", spec := "icmpReplies", apart := false, narrowed := true }
def IcmpRepliesUptoSaid : Prop := icmpRepliesUptoRow.holds Try.pinned (OpenSpec.upto icmpRepliesSpec)

/-- 'kiosklaw11.IcmpEchoes', WHERE WHAT IT READS IS OF BULK AT MOST 1048576: true; the input reads as it did. -/
def icmpEchoesUptoRow : OpenClaim := { program := "ytjdokaiadljeeaa", sum := "3084b0956e933d8052b2b16ef86d0df2466223f61dc8f06be64f25c929228883", func := "kiosk/kiosklaw11.IcmpEchoes", spec := "icmpEchoes", apart := false, narrowed := true }
def IcmpEchoesUptoSaid : Prop := icmpEchoesUptoRow.holds Try.pinned (OpenSpec.upto icmpEchoesSpec)

/-- 'kiosklaw10.IpBytes', WHERE WHAT IT READS IS OF BULK AT MOST 1048576: true; the input reads as it did. -/
def ipBytesUptoRow : OpenClaim := { program := "ytjdokaiadljeeaa", sum := "3084b0956e933d8052b2b16ef86d0df2466223f61dc8f06be64f25c929228883", func := "kiosk/kiosklaw10.IpBytes", spec := "ipBytes", apart := false, narrowed := true }
def IpBytesUptoSaid : Prop := ipBytesUptoRow.holds Try.pinned (OpenSpec.upto ipBytesSpec)

/-- 'kiosklaw10.IpParses', WHERE WHAT IT READS IS OF BULK AT MOST 1048576: true; the input reads as it did. -/
def ipParsesUptoRow : OpenClaim := { program := "ytjdokaiadljeeaa", sum := "3084b0956e933d8052b2b16ef86d0df2466223f61dc8f06be64f25c929228883", func := "kiosk/kiosklaw10.IpParses", spec := "ipParses", apart := false, narrowed := true }
def IpParsesUptoSaid : Prop := ipParsesUptoRow.holds Try.pinned (OpenSpec.upto ipParsesSpec)

/-- 'kiosklaw10.IpBack', WHERE WHAT IT READS IS OF BULK AT MOST 1048576: true; the input reads as it did. -/
def ipBackUptoRow : OpenClaim := { program := "ytjdokaiadljeeaa", sum := "3084b0956e933d8052b2b16ef86d0df2466223f61dc8f06be64f25c929228883", func := "kiosk/kiosklaw10.IpBack", spec := "ipBack", apart := false, narrowed := true }
def IpBackUptoSaid : Prop := ipBackUptoRow.holds Try.pinned (OpenSpec.upto ipBackSpec)

/-- 'kiosklaw10.IpErrors', WHERE WHAT IT READS IS OF BULK AT MOST 1048576: true; the input reads as it did. -/
def ipErrorsUptoRow : OpenClaim := { program := "ytjdokaiadljeeaa", sum := "3084b0956e933d8052b2b16ef86d0df2466223f61dc8f06be64f25c929228883", func := "kiosk/kiosklaw10.IpErrors", spec := "ipErrors", apart := false, narrowed := true }
def IpErrorsUptoSaid : Prop := ipErrorsUptoRow.holds Try.pinned (OpenSpec.upto ipErrorsSpec)

/-- 'kiosklaw13.SegBytes', WHERE WHAT IT READS IS OF BULK AT MOST 1048576: true; the input reads as it did. -/
def segBytesUptoRow : OpenClaim := { program := "ytjdokaiadljeeaa", sum := "3084b0956e933d8052b2b16ef86d0df2466223f61dc8f06be64f25c929228883", func := "kiosk/kiosklaw13.SegBytes", spec := "segBytes", apart := false, narrowed := true }
def SegBytesUptoSaid : Prop := segBytesUptoRow.holds Try.pinned (OpenSpec.upto segBytesSpec)

/-- 'kiosklaw13.SegParses', WHERE WHAT IT READS IS OF BULK AT MOST 1048576: true; the input reads as it did. -/
def segParsesUptoRow : OpenClaim := { program := "ytjdokaiadljeeaa", sum := "3084b0956e933d8052b2b16ef86d0df2466223f61dc8f06be64f25c929228883", func := "kiosk/kiosklaw13.SegParses", spec := "segParses", apart := false, narrowed := true }
def SegParsesUptoSaid : Prop := segParsesUptoRow.holds Try.pinned (OpenSpec.upto segParsesSpec)

/-- 'kiosklaw13.SegBack', WHERE WHAT IT READS IS OF BULK AT MOST 1048576: true; the input reads as it did. -/
def segBackUptoRow : OpenClaim := { program := "ytjdokaiadljeeaa", sum := "3084b0956e933d8052b2b16ef86d0df2466223f61dc8f06be64f25c929228883", func := "kiosk/kiosklaw13.SegBack", spec := "segBack", apart := false, narrowed := true }
def SegBackUptoSaid : Prop := segBackUptoRow.holds Try.pinned (OpenSpec.upto segBackSpec)

/-- 'kiosklaw13.SegErrors', WHERE WHAT IT READS IS OF BULK AT MOST 1048576: true; the input reads as it did. -/
def segErrorsUptoRow : OpenClaim := { program := "ytjdokaiadljeeaa", sum := "3084b0956e933d8052b2b16ef86d0df2466223f61dc8f06be64f25c929228883", func := "kiosk/kiosklaw13.SegErrors", spec := "segErrors", apart := false, narrowed := true }
def SegErrorsUptoSaid : Prop := segErrorsUptoRow.holds Try.pinned (OpenSpec.upto segErrorsSpec)

end Rows
end Go.Proofs.Ytjdokaiadljeeaa
