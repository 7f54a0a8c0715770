/-
 PROVED: 'Packets that are sent in pieces, each twice, near ones in another order, are told as they are' (kiosklaw27.TraceTells). CONDITIONS: none; for every argument.
-/
import Derived.Test.YtlacidnnankjlaaGreatDoorTie
import Derived.Test.YtlacidnnankjlaaGreatDoorCards
import Derived.Test.YtlacidnnankjlaaGreatDoorTt6
namespace Go.Proofs.YtlacidnnankjlaaGreatDoor
set_option maxRecDepth 100000
set_option maxHeartbeats 25600000
open Go.ChangeShapes Go.WideShapes Go.ChangeAt Go.RowKit Go.Deep
theorem Tale.all {H : Type} {enc : TypeId × Value → H} {W : World} {v : Value} {d : DataW H} {p : List MemPlace} (h : Comes enc W 70 v d p) :
  ∃ (A : Option Addr) (len cap : Nat) (size : Int) (AW : Option Addr) (way : List Int) (cW : Nat) (sq : Int), v = .agg #[.slice A len cap, iz size, .slice AW way.length cW, iz sq] ∧ Pks27 W A len ∧ Reads W W.heap.size 1 AW way.length (way.map iv) := by
 obtain ⟨⟨fuel, hf0⟩, hvb, hsz⟩ := h
 obtain ⟨cs, rfl, hcs⟩ := okw_struct Tryz.underlying70 hvb
 have hft := Fit.of hsz
 have c4 : Tryz.prog.cellsOf 70 = 4 := by kernel_rfl
 have e_int : Tryz.prog.cellsOf 3 = 1 := by kernel_rfl
 have e_mqs : Tryz.prog.cellsOf 22 = 1 := by kernel_rfl
 have e_ints : Tryz.prog.cellsOf 45 = 1 := by kernel_rfl
 rw [c4] at hcs
 obtain ⟨ys, k, _, ex, _, yl, hf⟩ := DataW.trod_struct Tryz.underlying70 hf0
 simp only [Prod.mk.injEq] at ex
 rw [ex.1] at hft
 have g0 := Fit.struct hft Tryz.underlying70 0 _ rfl _ (List.getElem?_eq_getElem (by rw [yl]; decide))
 have g2 := Fit.struct hft Tryz.underlying70 2 _ rfl _ (List.getElem?_eq_getElem (by rw [yl]; decide))
 obtain ⟨L⟩ := cs
 match L, hcs with
 | [k0, k1, k2, k3], _ =>
  have f0 := hf 0 _ rfl
  have f1 := hf 1 _ rfl
  have f2 := hf 2 _ rfl
  have f3 := hf 3 _ rfl
  simp only [List.getElem_toArray, List.getElem_cons_zero, List.getElem_cons_succ, e_int, e_mqs, e_ints, List.drop_zero] at f0 f1 f2 f3
  rw [List.getElem?_eq_getElem (by rw [yl]; decide)] at f0 f1 f2 f3
  obtain ⟨n1, e1, _, _⟩ := DataW.trod_int Tryz.underlying3 f1
  obtain ⟨n3, e3, _, _⟩ := DataW.trod_int Tryz.underlying3 f3
  obtain ⟨A, len, cap, fuel2, e0, hl, hc, hi⟩ := read_rowsI Tryz.underlying22 cells_mq (by decide) g0 f0
  obtain ⟨way, AW, cW, e2, _, _, r2⟩ := read_ints g2 f2
  have q0 : [k0] = [Value.slice A len cap] := e0
  have q1 : [k1] = [Value.int .i64 n1] := e1
  have q2 : [k2] = [Value.slice AW way.length cW] := e2
  have q3 : [k3] = [Value.int .i64 n3] := e3
  simp only [List.cons.injEq, and_true] at q0 q1 q2 q3
  subst q0 q1 q2 q3
  refine ⟨A, len, cap, n1, AW, way, cW, n3, rfl, fun i hlt => ?_, r2⟩
  obtain ⟨b, o, cs1, x, hA, hblt, hlen, hcell, htr, hft1⟩ := hi i hlt
  obtain ⟨m, vc, vw, vf, e3, hL, hF⟩ := read_mq hlen hft1 htr
  refine ⟨b, o, m, vc, vw, vf, hA, hblt, fun j u hu => ?_, hL, hF⟩
  rw [← e3] at hu
  have hj : j < 24 := by have := (List.getElem?_eq_some_iff.1 hu).1; omega
  rw [hcell j hj]
  exact hu
theorem traceTells_lifted (os : Os) (started : os.Started) (H : Type) (enc : TypeId × Value → H) :
  ReturnsInHanded {} Tryz.checked os 5 .any (fun w args => (Rows.traceTellsSpec.pre enc Tryz.prog Tryz.f5 [] false w args ∧ laidMetH Tryz.prog lay2 w) ∧ sizedMet enc Tryz.prog Tryz.f5 (OpenSpec.ofChange Rows.traceTellsSpec) false w args)
   (Rows.traceTellsSpec.post enc Tryz.prog Tryz.f5 false true false false) :=
 laid_core (C := Tryz.checked) (T := 70) own_knob laid_out Tryz.func5 Tryz.params5 (by kernel_rfl) Tryz.underlying4 rfl (fun _ _ => rfl) (by kernel_rfl) (of_decide_eq_true (by kernel_rfl)) (by kernel_rfl)
  (fun H enc W v d p h0 hv hs hl => by
   obtain ⟨A, len, cap, size, AW, way, cW, sq, rfl, ha, hw⟩ := Tale.all (enc := enc) ⟨h0, hv, hs⟩
   exact tellW A len cap size sq AW way cW W ha hw (tabs_of hl)) os started H enc
  (ChangeSpec.witness_shaped (enc := enc) (C := Tryz.checked) (os := os) (X := fun w _ => laidMetH Tryz.prog lay2 w) false (laidWorld os) #[.agg #[.slice none 0 0, iz 0, .slice none 0 0, iz 0]] 8 rfl (World.shaped_of_RefB (by kernel_rfl) (by kernel_rfl)) (by kernel_rfl) (by kernel_rfl) (by kernel_rfl) (laid_door os _))
theorem traceTells_said : Rows.TraceTellsSaid :=
 OpenClaim.holds_of_wide 5 Tryz.f5 rfl rfl rfl rfl rfl rfl rfl ⟨rfl, rfl, rfl, rfl, rfl⟩ rfl rfl rfl rfl rfl (by kernel_rfl) Tryz.func5 (by kernel_rfl)
  (of_decide_eq_true (by kernel_rfl)) (by unfold Func.isWrapper; first | (rw [if_pos (by decide +kernel)]; kernel_rfl) | (rw [if_neg (by decide +kernel)]; exact ⟨rfl, rfl⟩))
  (fun os started H enc _ => traceTells_lifted os started H enc)
theorem traceTells_holds : Rows.TraceTellsCardSaid :=
 Claim7.holds_tied_plain_at .later [] [.data, .pinned] true (true, "1d6a9c5b39f0021854437d5374770d3a444cede059f5e30cfccef2e5c77247af") false
  traceTells_said (fun _ h => by cases h) (by kernel_rfl) (fun _ h => by cases h) traceTells_row_tie rfl ⟨rfl, rfl⟩ (by kernel_rfl) rfl
  (fun f fn hf hfn => by
   obtain rfl : f = 5 := Option.some.inj ((show Tryz.prog.funcNamed "kiosk/kiosklaw27.TraceTells" = some 5 by kernel_rfl).symm.trans hf) |>.symm
   obtain rfl : fn = Tryz.f5 := (Option.some.inj (Tryz.func5.symm.trans hfn)).symm
   exact ⟨by kernel_rfl, fun j t ht => by
    rw [Tryz.params5] at ht
    have hm : t ∈ [70] := by simpa using Array.mem_of_getElem? ht
    have hall : ([70].all fun u => !Tryz.prog.wantsStandIn u) = true := by kernel_rfl
    exact (show Tryz.prog.wantsStandIn t = false by simpa using List.all_eq_true.1 hall t hm)⟩)
  (by kernel_rfl)
end Go.Proofs.YtlacidnnankjlaaGreatDoor
