/-
  PROVED: 'However the bytes of packets are parted, it is these packets, and then what the bytes behind them are; the same error, or none' (kiosklaw19.StreamParts). CONDITIONS: none; for every argument.
-/
import Derived.Test.YtkcdkjpmbjcmdaaDoorTie
import Derived.Test.YtkcdkjpmbjcmdaaDoorCards
import Derived.Test.YtkcdkjpmbjcmdaaDoorFp6
namespace Go.Proofs.YtkcdkjpmbjcmdaaDoor
open Go.ChangeShapes Go.WideShapes Go.ChangeAt Go.RowKit Go.Deep

set_option maxRecDepth 100000 in
theorem streamParts_lifted (os : Os) (started : os.Started) (H : Type) (enc : TypeId × Value → H) :
    ReturnsInHanded {} Tryd.checked os 21 .any (fun w args => (Rows.streamPartsSpec.pre enc Tryd.prog Tryd.f21 [] false w args ∧ laidMetH Tryd.prog lay2 w) ∧ sizedMet enc Tryd.prog Tryd.f21 (OpenSpec.ofChange Rows.streamPartsSpec) false w args)
      (Rows.streamPartsSpec.post enc Tryd.prog Tryd.f21 false true false false) :=
  laid_core (C := Tryd.checked) (T := 65) own_knob laid_out Tryd.func21 Tryd.params21 (by kernel_rfl) Tryd.underlying4 rfl (fun _ _ => rfl) (by kernel_rfl) (of_decide_eq_true (by kernel_rfl)) (by kernel_rfl)
    (fun H enc W v d p h0 hv hs hl => by
      obtain ⟨A, len, cap, AX, xs, cX, AS, sz, cS, rfl, _, _, ha⟩ := FlowAt.of (enc := enc) ⟨h0, hv, hs⟩
      exact streamParts_walk A len cap AX xs cX AS sz cS W ha (tabs_of hl)) os started H enc
    (ChangeSpec.witness_shaped (enc := enc) (C := Tryd.checked) (os := os) (X := fun w _ => laidMetH Tryd.prog lay2 w) false (laidWorld os) #[.agg #[nilV, nilV, nilV]] 8 rfl (World.shaped_of_RefB (by kernel_rfl) (by kernel_rfl)) (by kernel_rfl) (by kernel_rfl) (by kernel_rfl) (laid_door os _))

theorem streamParts_said : Rows.StreamPartsSaid :=
  OpenClaim.holds_of_wide 21 Tryd.f21 rfl rfl rfl rfl rfl rfl rfl ⟨rfl, rfl, rfl, rfl, rfl⟩ rfl rfl rfl rfl rfl (by kernel_rfl) Tryd.func21 (by kernel_rfl)
    (of_decide_eq_true (by kernel_rfl)) (by unfold Func.isWrapper; first | (rw [if_pos (by decide +kernel)]; kernel_rfl) | (rw [if_neg (by decide +kernel)]; exact ⟨rfl, rfl⟩))
    (fun os started H enc _ => streamParts_lifted os started H enc)

theorem streamParts_holds : Rows.StreamPartsCardSaid :=
  Claim7.holds_tied_plain_at .later [] [.data, .pinned] true (true, "6eb4556230c54d9426ff756d75c83868ab2ed26fface84207e726f9675facaca") false
    streamParts_said (fun _ h => by cases h) (by kernel_rfl) (fun _ h => by cases h) streamParts_row_tie rfl ⟨rfl, rfl⟩ (by kernel_rfl) rfl
    (fun f fn hf hfn => by
      obtain rfl : f = 21 := Option.some.inj ((show Tryd.prog.funcNamed "kiosk/kiosklaw19.StreamParts" = some 21 by kernel_rfl).symm.trans hf) |>.symm
      obtain rfl : fn = Tryd.f21 := (Option.some.inj (Tryd.func21.symm.trans hfn)).symm
      exact ⟨by kernel_rfl, fun j t ht => by
        rw [Tryd.params21] at ht
        have hm : t ∈ [65] := by simpa using Array.mem_of_getElem? ht
        have hall : ([65].all fun u => !Tryd.prog.wantsStandIn u) = true := by kernel_rfl
        exact (show Tryd.prog.wantsStandIn t = false by simpa using List.all_eq_true.1 hall t hm)⟩)
    (by kernel_rfl)
end Go.Proofs.YtkcdkjpmbjcmdaaDoor
