/-
 PROVED: 'Up, a client says packets as segments, each behind the other, the last one again; what it hears in order it takes, once, and acknowledges; what it got is what was said' (kiosklaw28.ClientTalks). CONDITIONS: none; for every argument.
-/
import Derived.Test.YtlacidnnankjlaaGreatDoorTie
import Derived.Test.YtlacidnnankjlaaGreatDoorCards
import Derived.Test.YtlacidnnankjlaaGreatDoorCt6
namespace Go.Proofs.YtlacidnnankjlaaGreatDoor
set_option maxRecDepth 100000
set_option maxHeartbeats 25600000
open Go.ChangeShapes Go.WideShapes Go.ChangeAt Go.RowKit Go.Deep
theorem talk_no (ip mac port iss sq : Int) (A : Option Addr) (len cap : Nat) (b1 b2 b3 b4 : Bool) (h1 : inR ip 4294967295 = b1) (h2 : inR mac 281474976710655 = b2) (h3 : inR port 65535 = b3) (h4 : inR iss 4294967295 = b4) (hn : (b1 && b2 && b3 && b4) = false) (w : World) (hlen : len ≤ maxLen) (ha : PksAt w A len) :
  Calls Tryz.prog 6 #[.agg ([iz ip, iz mac, iz port, iz iss, .slice A len cap, iz sq] : List Value).toArray] w fun e w' => e = .returned (.bool true) ∧ Below w.heap.size w w' := by
 go_enter Tryz.func6, Tryz.ntmps6
 refine Has.start 366 [(0, .agg ([iz ip, iz mac, iz port, iz iss, .slice A len cap, iz sq] : List Value).toArray)] rfl rfl ⟨rfl, trivial⟩ ?_
 intro a0 H0
 refine rl ?_
 refine H0.bx (Own.start w) 1 (L := [iz ip, iz mac, iz port, iz iss, .slice A len cap, iz sq]) fun a w1 O1 H => nt ?_
 obtain ⟨gp, hgp⟩ : ∃ gp, w.heap.size = gp := ⟨_, rfl⟩
 rw [hgp] at O1 H
 replace H := H.kp [1]
 refine H.rg 0 fun a H => ?_
 refine H.loadS rfl rfl rfl rfl rfl (O1.get 0 rfl) Tryz.underlying24 rfl size_askT rfl fun a H => ?_
 have ha1 : PksAt w1 A len := fun i hlt => by
  obtain ⟨b, o, m, vc, vw, vf, q1, q2, q3, q4, q5⟩ := ha i hlt
  exact ⟨b, o, m, vc, vw, vf, q1, Nat.lt_of_lt_of_le q2 (hgp.symm ▸ O1.bel).size, rangeB q3 (hgp.symm ▸ O1.bel) q2, q4.next (hgp.symm ▸ O1.bel), q5⟩
 refine H.cl (heavy28 ip mac port iss sq A len cap w1 ha1 hlen) ?_
 rintro a _ w2 ⟨bh, rfl, hb2⟩ H
 have O2 := O1.call hb2
 clear ha1
 cases bh with
 | true =>
  refine H.ms 1 fun a H => ?_
  refine H.offs 3 rfl fun a H => ?_
  refine H.pick gz rfl rfl rfl rfl rfl fun a H => nt (H.condT rfl ?_)
  refine H.rg 1 fun a H => nt (wp_ret ?_)
  repeat (first | (with_reducible refine block_ret ?_) | (with_reducible refine then_ret ?_))
  exact bodyPost_ret (results_tmp rfl _ _ _) H.df ⟨congrArg Ending.returned (H.at_ 2 _ rfl), hgp ▸ O2.bel⟩
 | false =>
 refine H.ms 1 fun a H => ?_
 refine H.go (H.wt rfl rfl rfl) rfl rfl _ (run_load rfl (H.ev rfl) (loadT (O2.get 0 rfl) Tryz.underlying24 rfl size_askT rfl)) fun a H => ?_
 refine H.call (H.wt rfl rfl rfl) rfl rfl rfl rfl (fun _ _ => by kernel_rfl) (belowC (may28 ip mac port iss sq (.slice A len cap) b1 b2 b3 b4 h1 h2 h3 h4 w2)) ?_
 rintro a _ w3 ⟨rfl, hb3⟩ H
 have O3 := O2.call hb3
 rw [hn] at H
 refine H.un (H.wt rfl rfl rfl) rfl rfl rfl rfl (run_not false _) fun a H => ?_
 refine H.pick gz rfl rfl rfl rfl rfl fun a H => nt (H.condT rfl ?_)
 refine H.rg 1 fun a H => nt (wp_ret ?_)
 repeat (first | (with_reducible refine block_ret ?_) | (with_reducible refine then_ret ?_))
 exact bodyPost_ret (results_tmp rfl _ _ _) H.df ⟨congrArg Ending.returned (H.at_ 2 _ rfl), hgp ▸ O3.bel⟩
theorem clientTalks_walk (ip mac port iss sq : Int) (A : Option Addr) (len cap : Nat) (w : World) (hT : Wd w) (hlen : len ≤ maxLen) (ha : PksAt w A len) : Calls Tryz.prog 6 #[.agg #[iz ip, iz mac, iz port, iz iss, .slice A len cap, iz sq]] w fun e w' => e = .returned (.bool true) ∧ Below w.heap.size w w' := by
 cases hb : inR ip 4294967295 && inR mac 281474976710655 && inR port 65535 && inR iss 4294967295 with
 | false => exact talk_no ip mac port iss sq A len cap _ _ _ _ rfl rfl rfl rfl hb w hlen ha
 | true =>
  simp only [Bool.and_eq_true] at hb
  obtain ⟨⟨⟨h1, h2⟩, h3⟩, h4⟩ := hb
  obtain ⟨a1, b1⟩ := inR_iff.1 h1
  obtain ⟨a2, b2⟩ := inR_iff.1 h2
  obtain ⟨a3, b3⟩ := inR_iff.1 h3
  obtain ⟨a4, b4⟩ := inR_iff.1 h4
  obtain ⟨ip, rfl⟩ := Int.eq_ofNat_of_zero_le a1
  obtain ⟨mac, rfl⟩ := Int.eq_ofNat_of_zero_le a2
  obtain ⟨port, rfl⟩ := Int.eq_ofNat_of_zero_le a3
  obtain ⟨iss, rfl⟩ := Int.eq_ofNat_of_zero_le a4
  exact talk_yes ip mac port iss sq A len cap (by omega) (by omega) (by omega) (by omega) w hT hlen ha
theorem clientTalks_lifted (os : Os) (started : os.Started) (H : Type) (enc : TypeId × Value → H) :
  ReturnsInHanded {} Tryz.checked os 6 .any (fun w args => (Rows.clientTalksSpec.pre enc Tryz.prog Tryz.f6 [] false w args ∧ laidMetH Tryz.prog lay2 w) ∧ sizedMet enc Tryz.prog Tryz.f6 (OpenSpec.ofChange Rows.clientTalksSpec) false w args)
   (Rows.clientTalksSpec.post enc Tryz.prog Tryz.f6 false true false false) :=
 laid_core (C := Tryz.checked) (T := 24) own_knob laid_out Tryz.func6 Tryz.params6 (by kernel_rfl) Tryz.underlying4 rfl (fun _ _ => rfl) (by kernel_rfl) (of_decide_eq_true (by kernel_rfl)) (by kernel_rfl)
  (fun H enc W v d p h0 hv hs hl => by
   obtain ⟨ip, mac, port, iss, A, len, cap, sq, rfl, hlen, ha⟩ := Ask28.all (enc := enc) ⟨h0, hv, hs⟩
   exact clientTalks_walk ip mac port iss sq A len cap W (tabs_of hl) hlen ha) os started H enc
  (ChangeSpec.witness_shaped (enc := enc) (C := Tryz.checked) (os := os) (X := fun w _ => laidMetH Tryz.prog lay2 w) false (laidWorld os) #[.agg #[iz 0, iz 0, iz 0, iz 0, .slice none 0 0, iz 0]] 8 rfl (World.shaped_of_RefB (by kernel_rfl) (by kernel_rfl)) (by kernel_rfl) (by kernel_rfl) (by kernel_rfl) (laid_door os _))
theorem clientTalks_said : Rows.ClientTalksSaid :=
 OpenClaim.holds_of_wide 6 Tryz.f6 rfl rfl rfl rfl rfl rfl rfl ⟨rfl, rfl, rfl, rfl, rfl⟩ rfl rfl rfl rfl rfl (by kernel_rfl) Tryz.func6 (by kernel_rfl)
  (of_decide_eq_true (by kernel_rfl)) (by unfold Func.isWrapper; first | (rw [if_pos (by decide +kernel)]; kernel_rfl) | (rw [if_neg (by decide +kernel)]; exact ⟨rfl, rfl⟩))
  (fun os started H enc _ => clientTalks_lifted os started H enc)
theorem clientTalks_holds : Rows.ClientTalksCardSaid :=
 Claim7.holds_tied_plain_at .later [] [.data, .pinned] true (true, "1d6a9c5b39f0021854437d5374770d3a444cede059f5e30cfccef2e5c77247af") false
  clientTalks_said (fun _ h => by cases h) (by kernel_rfl) (fun _ h => by cases h) clientTalks_row_tie rfl ⟨rfl, rfl⟩ (by kernel_rfl) rfl
  (fun f fn hf hfn => by
   obtain rfl : f = 6 := Option.some.inj ((show Tryz.prog.funcNamed "kiosk/kiosklaw28.ClientTalks" = some 6 by kernel_rfl).symm.trans hf) |>.symm
   obtain rfl : fn = Tryz.f6 := (Option.some.inj (Tryz.func6.symm.trans hfn)).symm
   exact ⟨by kernel_rfl, fun j t ht => by
    rw [Tryz.params6] at ht
    have hm : t ∈ [24] := by simpa using Array.mem_of_getElem? ht
    have hall : ([24].all fun u => !Tryz.prog.wantsStandIn u) = true := by kernel_rfl
    exact (show Tryz.prog.wantsStandIn t = false by simpa using List.all_eq_true.1 hall t hm)⟩)
  (by kernel_rfl)
end Go.Proofs.YtlacidnnankjlaaGreatDoor
