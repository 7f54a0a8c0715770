/-
  PROVED: 'Who may be a client, how it greets, and calls, is the page's, or it is refused' (kiosklaw28.ClientBegins). CONDITIONS: none; for every argument.
-/
import Derived.Test.YtlacidnnankjlaaDoorTie
import Derived.Test.YtlacidnnankjlaaDoorCards
import Derived.Test.YtlacidnnankjlaaDoorCb3
namespace Go.Proofs.YtlacidnnankjlaaDoor
open Go.ChangeShapes Go.WideShapes Go.ChangeAt Go.RowKit Go.Deep

set_option maxRecDepth 100000 in
theorem Ask28.of {H : Type} {enc : TypeId × Value → H} {W : World} {v : Value} {d : DataW H} {p : List MemPlace} (h : Comes enc W 24 v d p) :
    ∃ (ip mac port iss : Int) (vL : Value) (sq : Int), v = .agg #[.int .i64 ip, .int .i64 mac, .int .i64 port, .int .i64 iss, vL, .int .i64 sq] := by
  obtain ⟨⟨fuel, hf0⟩, hvb, hsz⟩ := h
  obtain ⟨cs, rfl, hcs⟩ := okw_struct Tryd.underlying24 hvb
  have c6 : Tryd.prog.cellsOf 24 = 6 := by kernel_rfl
  have e_int : Tryd.prog.cellsOf 3 = 1 := by kernel_rfl
  rw [c6] at hcs
  obtain ⟨ys, k, _, ex, _, yl, hf⟩ := DataW.trod_struct Tryd.underlying24 hf0
  obtain ⟨L⟩ := cs
  match L, hcs with
  | [k0, k1, k2, k3, k4, k5], _ =>
    have f0 := hf 0 _ rfl
    have f1 := hf 1 _ rfl
    have f2 := hf 2 _ rfl
    have f3 := hf 3 _ rfl
    have f5 := hf 5 _ rfl
    simp only [List.getElem_toArray, List.getElem_cons_zero, List.getElem_cons_succ, e_int, List.drop_zero] at f0 f1 f2 f3 f5
    rw [List.getElem?_eq_getElem (by rw [yl]; decide)] at f0 f1 f2 f3 f5
    obtain ⟨n0, e0, _, _⟩ := DataW.trod_int Tryd.underlying3 f0
    obtain ⟨n1, e1, _, _⟩ := DataW.trod_int Tryd.underlying3 f1
    obtain ⟨n2, e2, _, _⟩ := DataW.trod_int Tryd.underlying3 f2
    obtain ⟨n3, e3, _, _⟩ := DataW.trod_int Tryd.underlying3 f3
    obtain ⟨n5, e5, _, _⟩ := DataW.trod_int Tryd.underlying3 f5
    have q0 : [k0] = [Value.int .i64 n0] := e0
    have q1 : [k1] = [Value.int .i64 n1] := e1
    have q2 : [k2] = [Value.int .i64 n2] := e2
    have q3 : [k3] = [Value.int .i64 n3] := e3
    have q5 : [k5] = [Value.int .i64 n5] := e5
    simp only [List.cons.injEq, and_true] at q0 q1 q2 q3 q5
    subst q0 q1 q2 q3 q5
    exact ⟨n0, n1, n2, n3, k4, n5, rfl⟩
theorem clientBegins_walk (ip mac port iss sq : Int) (vL : Value) (w : World) : Calls Tryd.prog 3 #[.agg #[.int .i64 ip, .int .i64 mac, .int .i64 port, .int .i64 iss, vL, .int .i64 sq]] w fun e w' => e = .returned (.bool true) ∧ Below w.heap.size w w' := by
  cases hb : inR ip 4294967295 && inR mac 281474976710655 && inR port 65535 && inR iss 4294967295 with
  | false => exact begins_no ip mac port iss sq vL _ _ _ _ rfl rfl rfl rfl hb w
  | true =>
    simp only [Bool.and_eq_true] at hb
    obtain ⟨⟨⟨h1, h2⟩, h3⟩, h4⟩ := hb
    obtain ⟨a1, b1⟩ := inR_iff.1 h1
    obtain ⟨a2, b2⟩ := inR_iff.1 h2
    obtain ⟨a3, b3⟩ := inR_iff.1 h3
    obtain ⟨a4, b4⟩ := inR_iff.1 h4
    obtain ⟨ip, rfl⟩ := Int.eq_ofNat_of_zero_le a1
    obtain ⟨mac, rfl⟩ := Int.eq_ofNat_of_zero_le a2
    obtain ⟨port, rfl⟩ := Int.eq_ofNat_of_zero_le a3
    obtain ⟨iss, rfl⟩ := Int.eq_ofNat_of_zero_le a4
    exact begins_yes ip mac port iss sq vL (by omega) (by omega) (by omega) (by omega) w

set_option maxRecDepth 100000 in
theorem clientBegins_lifted (os : Os) (started : os.Started) (H : Type) (enc : TypeId × Value → H) :
    ReturnsInHanded {} Tryd.checked os 3 .any (fun w args => (Rows.clientBeginsSpec.pre enc Tryd.prog Tryd.f3 [] false w args ∧ laidMetH Tryd.prog lay2 w) ∧ sizedMet enc Tryd.prog Tryd.f3 (OpenSpec.ofChange Rows.clientBeginsSpec) false w args)
      (Rows.clientBeginsSpec.post enc Tryd.prog Tryd.f3 false true false false) :=
  laid_core (C := Tryd.checked) (T := 24) own_knob laid_out Tryd.func3 Tryd.params3 (by kernel_rfl) Tryd.underlying4 rfl (fun _ _ => rfl) (by kernel_rfl) (of_decide_eq_true (by kernel_rfl)) (by kernel_rfl)
    (fun H enc W v d p h0 hv hs _ => by
      obtain ⟨ip, mac, port, iss, vL, sq, rfl⟩ := Ask28.of (enc := enc) ⟨h0, hv, hs⟩
      exact clientBegins_walk ip mac port iss sq vL W) os started H enc
    (ChangeSpec.witness_shaped (enc := enc) (C := Tryd.checked) (os := os) (X := fun w _ => laidMetH Tryd.prog lay2 w) false (laidWorld os) #[.agg #[.int .i64 0, .int .i64 0, .int .i64 0, .int .i64 0, .slice none 0 0, .int .i64 0]] 8 rfl (World.shaped_of_RefB (by kernel_rfl) (by kernel_rfl)) (by kernel_rfl) (by kernel_rfl) (by kernel_rfl) (laid_door os _))

theorem clientBegins_said : Rows.ClientBeginsSaid :=
  OpenClaim.holds_of_wide 3 Tryd.f3 rfl rfl rfl rfl rfl rfl rfl ⟨rfl, rfl, rfl, rfl, rfl⟩ rfl rfl rfl rfl rfl (by kernel_rfl) Tryd.func3 (by kernel_rfl)
    (of_decide_eq_true (by kernel_rfl)) (by unfold Func.isWrapper; first | (rw [if_pos (by decide +kernel)]; kernel_rfl) | (rw [if_neg (by decide +kernel)]; exact ⟨rfl, rfl⟩))
    (fun os started H enc _ => clientBegins_lifted os started H enc)

theorem clientBegins_holds : Rows.ClientBeginsCardSaid :=
  Claim7.holds_tied_plain_at .later [] [.data, .pinned] true (true, "04d0a05e907013b3561e07a2ba956a3524175d426a810ccb34aa4426a6623fef") false
    clientBegins_said (fun _ h => by cases h) (by kernel_rfl) (fun _ h => by cases h) clientBegins_row_tie rfl ⟨rfl, rfl⟩ (by kernel_rfl) rfl
    (fun f fn hf hfn => by
      obtain rfl : f = 3 := Option.some.inj ((show Tryd.prog.funcNamed "kiosk/kiosklaw28.ClientBegins" = some 3 by kernel_rfl).symm.trans hf) |>.symm
      obtain rfl : fn = Tryd.f3 := (Option.some.inj (Tryd.func3.symm.trans hfn)).symm
      exact ⟨by kernel_rfl, fun j t ht => by
        rw [Tryd.params3] at ht
        have hm : t ∈ [24] := by simpa using Array.mem_of_getElem? ht
        have hall : ([24].all fun u => !Tryd.prog.wantsStandIn u) = true := by kernel_rfl
        exact (show Tryd.prog.wantsStandIn t = false by simpa using List.all_eq_true.1 hall t hm)⟩)
    (by kernel_rfl)
end Go.Proofs.YtlacidnnankjlaaDoor
