/-
  PROVED: 'Frames for others, that are not whole, that come ahead of their turn, or again, count for nothing; they are not acknowledged' (kiosklaw28.ClientDeaf). CONDITIONS: none; for every argument.
-/
import Derived.Test.YtlacidnnankjlaaGreatDoorTie
import Derived.Test.YtlacidnnankjlaaGreatDoorCards
import Derived.Test.YtlacidnnankjlaaGreatDoorCd6
namespace Go.Proofs.YtlacidnnankjlaaGreatDoor
open Go.ChangeShapes Go.WideShapes Go.ChangeAt Go.RowKit Go.Deep

theorem clientDeaf_walk (ip mac port iss sq : Int) (A : Option Addr) (len cap : Nat) (w : World) (hT : Wd w) : Calls Tryz.prog 3 #[.agg #[.int .i64 ip, .int .i64 mac, .int .i64 port, .int .i64 iss, .slice A len cap, .int .i64 sq]] w fun e w' => e = .returned (.bool true) ∧ Below w.heap.size w w' := by
  cases hb : inR ip 4294967295 && inR mac 281474976710655 && inR port 65535 && inR iss 4294967295 with
  | false => exact deaf_no ip mac port iss sq (.slice A len cap) _ _ _ _ rfl rfl rfl rfl hb w
  | true =>
    simp only [Bool.and_eq_true] at hb
    obtain ⟨⟨⟨h1, h2⟩, h3⟩, h4⟩ := hb
    obtain ⟨a1, b1⟩ := inR_iff.1 h1
    obtain ⟨a2, b2⟩ := inR_iff.1 h2
    obtain ⟨a3, b3⟩ := inR_iff.1 h3
    obtain ⟨a4, b4⟩ := inR_iff.1 h4
    obtain ⟨ip, rfl⟩ := Int.eq_ofNat_of_zero_le a1
    obtain ⟨mac, rfl⟩ := Int.eq_ofNat_of_zero_le a2
    obtain ⟨port, rfl⟩ := Int.eq_ofNat_of_zero_le a3
    obtain ⟨iss, rfl⟩ := Int.eq_ofNat_of_zero_le a4
    exact deaf_yes ip mac port iss sq A len cap (by omega) (by omega) (by omega) (by omega) w hT

set_option maxRecDepth 100000 in
theorem clientDeaf_lifted (os : Os) (started : os.Started) (H : Type) (enc : TypeId × Value → H) :
    ReturnsInHanded {} Tryz.checked os 3 .any (fun w args => (Rows.clientDeafSpec.pre enc Tryz.prog Tryz.f3 [] false w args ∧ laidMetH Tryz.prog lay2 w) ∧ sizedMet enc Tryz.prog Tryz.f3 (OpenSpec.ofChange Rows.clientDeafSpec) false w args)
      (Rows.clientDeafSpec.post enc Tryz.prog Tryz.f3 false true false false) :=
  laid_core (C := Tryz.checked) (T := 24) own_knob laid_out Tryz.func3 Tryz.params3 (by kernel_rfl) Tryz.underlying4 rfl (fun _ _ => rfl) (by kernel_rfl) (of_decide_eq_true (by kernel_rfl)) (by kernel_rfl)
    (fun H enc W v d p h0 hv hs hl => by
      obtain ⟨ip, mac, port, iss, A, len, cap, sq, rfl⟩ := Ask28.shape (enc := enc) ⟨h0, hv, hs⟩
      exact clientDeaf_walk ip mac port iss sq A len cap W (tabs_of hl)) os started H enc
    (ChangeSpec.witness_shaped (enc := enc) (C := Tryz.checked) (os := os) (X := fun w _ => laidMetH Tryz.prog lay2 w) false (laidWorld os) #[.agg #[.int .i64 0, .int .i64 0, .int .i64 0, .int .i64 0, .slice none 0 0, .int .i64 0]] 8 rfl (World.shaped_of_RefB (by kernel_rfl) (by kernel_rfl)) (by kernel_rfl) (by kernel_rfl) (by kernel_rfl) (laid_door os _))

theorem clientDeaf_said : Rows.ClientDeafSaid :=
  OpenClaim.holds_of_wide 3 Tryz.f3 rfl rfl rfl rfl rfl rfl rfl ⟨rfl, rfl, rfl, rfl, rfl⟩ rfl rfl rfl rfl rfl (by kernel_rfl) Tryz.func3 (by kernel_rfl)
    (of_decide_eq_true (by kernel_rfl)) (by unfold Func.isWrapper; first | (rw [if_pos (by decide +kernel)]; kernel_rfl) | (rw [if_neg (by decide +kernel)]; exact ⟨rfl, rfl⟩))
    (fun os started H enc _ => clientDeaf_lifted os started H enc)

theorem clientDeaf_holds : Rows.ClientDeafCardSaid :=
  Claim7.holds_tied_plain_at .later [] [.data, .pinned] true (true, "1d6a9c5b39f0021854437d5374770d3a444cede059f5e30cfccef2e5c77247af") false
    clientDeaf_said (fun _ h => by cases h) (by kernel_rfl) (fun _ h => by cases h) clientDeaf_row_tie rfl ⟨rfl, rfl⟩ (by kernel_rfl) rfl
    (fun f fn hf hfn => by
      obtain rfl : f = 3 := Option.some.inj ((show Tryz.prog.funcNamed "kiosk/kiosklaw28.ClientDeaf" = some 3 by kernel_rfl).symm.trans hf) |>.symm
      obtain rfl : fn = Tryz.f3 := (Option.some.inj (Tryz.func3.symm.trans hfn)).symm
      exact ⟨by kernel_rfl, fun j t ht => by
        rw [Tryz.params3] at ht
        have hm : t ∈ [24] := by simpa using Array.mem_of_getElem? ht
        have hall : ([24].all fun u => !Tryz.prog.wantsStandIn u) = true := by kernel_rfl
        exact (show Tryz.prog.wantsStandIn t = false by simpa using List.all_eq_true.1 hall t hm)⟩)
    (by kernel_rfl)
end Go.Proofs.YtlacidnnankjlaaGreatDoor
