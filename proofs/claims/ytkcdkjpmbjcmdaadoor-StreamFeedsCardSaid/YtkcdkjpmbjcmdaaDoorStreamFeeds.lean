/-
  PROVED: 'Which packets any bytes, behind any others, are, what is left, and the error, is the page's' (kiosklaw19.StreamFeeds). CONDITIONS: none; for every argument.
-/
import Derived.Test.YtkcdkjpmbjcmdaaDoorTie
import Derived.Test.YtkcdkjpmbjcmdaaDoorCards
import Derived.Test.YtkcdkjpmbjcmdaaDoorFe5
namespace Go.Proofs.YtkcdkjpmbjcmdaaDoor
open Go.ChangeShapes Go.WideShapes Go.ChangeAt Go.RowKit Go.Deep

set_option maxRecDepth 100000 in
theorem streamFeeds_lifted (os : Os) (started : os.Started) (H : Type) (enc : TypeId × Value → H) :
    ReturnsInHanded {} Tryd.checked os 20 .any (fun w args => (Rows.streamFeedsSpec.pre enc Tryd.prog Tryd.f20 [] false w args ∧ laidMetH Tryd.prog lay2 w) ∧ sizedMet enc Tryd.prog Tryd.f20 (OpenSpec.ofChange Rows.streamFeedsSpec) false w args)
      (Rows.streamFeedsSpec.post enc Tryd.prog Tryd.f20 false true false false) :=
  laid_core (C := Tryd.checked) (T := 54) own_knob laid_out Tryd.func20 Tryd.params20 (by kernel_rfl) Tryd.underlying4 rfl (fun _ _ => rfl) (by kernel_rfl) (of_decide_eq_true (by kernel_rfl)) (by kernel_rfl)
    (fun H enc W v d p h0 hv hs hl => by
      obtain ⟨A, len, cap, rfl, _, _, ha⟩ := Ask19.of (enc := enc) ⟨h0, hv, hs⟩
      exact streamFeeds_walk A len cap W ha (tabs_of hl)) os started H enc
    (ChangeSpec.witness_shaped (enc := enc) (C := Tryd.checked) (os := os) (X := fun w _ => laidMetH Tryd.prog lay2 w) false (laidWorld os) #[.slice none 0 0] 8 rfl (World.shaped_of_RefB (by kernel_rfl) (by kernel_rfl)) (by kernel_rfl) (by kernel_rfl) (by kernel_rfl) (laid_door os _))

theorem streamFeeds_said : Rows.StreamFeedsSaid :=
  OpenClaim.holds_of_wide 20 Tryd.f20 rfl rfl rfl rfl rfl rfl rfl ⟨rfl, rfl, rfl, rfl, rfl⟩ rfl rfl rfl rfl rfl (by kernel_rfl) Tryd.func20 (by kernel_rfl)
    (of_decide_eq_true (by kernel_rfl)) (by unfold Func.isWrapper; first | (rw [if_pos (by decide +kernel)]; kernel_rfl) | (rw [if_neg (by decide +kernel)]; exact ⟨rfl, rfl⟩))
    (fun os started H enc _ => streamFeeds_lifted os started H enc)

theorem streamFeeds_holds : Rows.StreamFeedsCardSaid :=
  Claim7.holds_tied_plain_at .later [] [.data, .pinned] true (true, "6eb4556230c54d9426ff756d75c83868ab2ed26fface84207e726f9675facaca") false
    streamFeeds_said (fun _ h => by cases h) (by kernel_rfl) (fun _ h => by cases h) streamFeeds_row_tie rfl ⟨rfl, rfl⟩ (by kernel_rfl) rfl
    (fun f fn hf hfn => by
      obtain rfl : f = 20 := Option.some.inj ((show Tryd.prog.funcNamed "kiosk/kiosklaw19.StreamFeeds" = some 20 by kernel_rfl).symm.trans hf) |>.symm
      obtain rfl : fn = Tryd.f20 := (Option.some.inj (Tryd.func20.symm.trans hfn)).symm
      exact ⟨by kernel_rfl, fun j t ht => by
        rw [Tryd.params20] at ht
        have hm : t ∈ [54] := by simpa using Array.mem_of_getElem? ht
        have hall : ([54].all fun u => !Tryd.prog.wantsStandIn u) = true := by kernel_rfl
        exact (show Tryd.prog.wantsStandIn t = false by simpa using List.all_eq_true.1 hall t hm)⟩)
    (by kernel_rfl)
end Go.Proofs.YtkcdkjpmbjcmdaaDoor
