/-
  PROVED: 'Whether the packet that says "good-bye" may be is the page's; its bytes are, too, and are read as it; with other flags, or what belongs to another kind, it is what the page says' (kiosklaw18.PackByes). CONDITIONS: none; for every argument.
-/
import Derived.Test.YtkcdkjpmbjcmdaaDoorTie
import Derived.Test.YtkcdkjpmbjcmdaaDoorCards
import Derived.Test.YtkcdkjpmbjcmdaaDoorCa5
import Derived.Test.YtkcdkjpmbjcmdaaDoorKd1
namespace Go.Proofs.YtkcdkjpmbjcmdaaDoor
open Go.ChangeShapes Go.WideShapes Go.ChangeAt Go.RowKit Go.Deep

set_option maxRecDepth 100000 in
theorem packByes_walk (A : Option Addr) (len cap : Nat) (w : World) (ha : AskMq w A len) (hT : Wd w) :
    Calls Tryd.prog 19 #[.slice A len cap] w fun e w' => e = .returned (.bool true) ∧ Below w.heap.size w w' := by
  go_enter Tryd.func19, Tryd.ntmps19
  refine Has.start 5 [(0, .slice A len cap)] rfl rfl ⟨rfl, trivial⟩ ?_
  intro a0 H0
  refine H0.rg 1 fun a1 H1 => nt ?_
  refine H1.rg 1 fun a2 H2 => ?_
  refine H2.cl (belowC (kind_walk 14 A len cap w ha hT)) ?_
  rintro a3 _ w1 ⟨rfl, hb⟩ H3
  refine H3.ms 1 fun a4 H4 => nt (wp_ret ?_)
  exact bodyPost_ret (results_tmp rfl _ _ _) H4.df ⟨congrArg Ending.returned (H4.at_ 2 _ rfl), hb⟩

set_option maxRecDepth 100000 in
theorem packByes_lifted (os : Os) (started : os.Started) (H : Type) (enc : TypeId × Value → H) :
    ReturnsInHanded {} Tryd.checked os 19 .any (fun w args => (Rows.packByesSpec.pre enc Tryd.prog Tryd.f19 [] false w args ∧ laidMetH Tryd.prog lay2 w) ∧ sizedMet enc Tryd.prog Tryd.f19 (OpenSpec.ofChange Rows.packByesSpec) false w args)
      (Rows.packByesSpec.post enc Tryd.prog Tryd.f19 false true false false) :=
  laid_core (C := Tryd.checked) (T := 22) own_knob laid_out Tryd.func19 Tryd.params19 (by kernel_rfl) Tryd.underlying4 rfl (fun _ _ => rfl) (by kernel_rfl) (of_decide_eq_true (by kernel_rfl)) (by kernel_rfl)
    (fun H enc W v d p h0 hv hs hl => by
      obtain ⟨A, len, cap, rfl, _, _, ha⟩ := AskMq.of (enc := enc) ⟨h0, hv, hs⟩
      exact packByes_walk A len cap W ha (tabs_of hl)) os started H enc
    (ChangeSpec.witness_shaped (enc := enc) (C := Tryd.checked) (os := os) (X := fun w _ => laidMetH Tryd.prog lay2 w) false (laidWorld os) #[.slice none 0 0] 8 rfl (World.shaped_of_RefB (by kernel_rfl) (by kernel_rfl)) (by kernel_rfl) (by kernel_rfl) (by kernel_rfl) (laid_door os _))

theorem packByes_said : Rows.PackByesSaid :=
  OpenClaim.holds_of_wide 19 Tryd.f19 rfl rfl rfl rfl rfl rfl rfl ⟨rfl, rfl, rfl, rfl, rfl⟩ rfl rfl rfl rfl rfl (by kernel_rfl) Tryd.func19 (by kernel_rfl)
    (of_decide_eq_true (by kernel_rfl)) (by unfold Func.isWrapper; first | (rw [if_pos (by decide +kernel)]; kernel_rfl) | (rw [if_neg (by decide +kernel)]; exact ⟨rfl, rfl⟩))
    (fun os started H enc _ => packByes_lifted os started H enc)

theorem packByes_holds : Rows.PackByesCardSaid :=
  Claim7.holds_tied_plain_at .later [] [.data, .pinned] true (true, "6eb4556230c54d9426ff756d75c83868ab2ed26fface84207e726f9675facaca") false
    packByes_said (fun _ h => by cases h) (by kernel_rfl) (fun _ h => by cases h) packByes_row_tie rfl ⟨rfl, rfl⟩ (by kernel_rfl) rfl
    (fun f fn hf hfn => by
      obtain rfl : f = 19 := Option.some.inj ((show Tryd.prog.funcNamed "kiosk/kiosklaw18.PackByes" = some 19 by kernel_rfl).symm.trans hf) |>.symm
      obtain rfl : fn = Tryd.f19 := (Option.some.inj (Tryd.func19.symm.trans hfn)).symm
      exact ⟨by kernel_rfl, fun j t ht => by
        rw [Tryd.params19] at ht
        have hm : t ∈ [22] := by simpa using Array.mem_of_getElem? ht
        have hall : ([22].all fun u => !Tryd.prog.wantsStandIn u) = true := by kernel_rfl
        exact (show Tryd.prog.wantsStandIn t = false by simpa using List.all_eq_true.1 hall t hm)⟩)
    (by kernel_rfl)
end Go.Proofs.YtkcdkjpmbjcmdaaDoor
