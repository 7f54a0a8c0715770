/-
 PROVED: 'What any frames say to anybody, a page of its own says too' (kiosklaw27.TraceExact). CONDITIONS: none; for every argument.
-/
import Derived.Test.YtlacidnnankjlaaGreatDoorTie
import Derived.Test.YtlacidnnankjlaaGreatDoorCards
import Derived.Test.YtlacidnnankjlaaGreatDoorTe6
namespace Go.Proofs.YtlacidnnankjlaaGreatDoor
set_option maxRecDepth 100000
set_option maxHeartbeats 25600000
open Go.ChangeShapes Go.WideShapes Go.ChangeAt Go.RowKit Go.Deep
theorem Film.all {H : Type} {enc : TypeId × Value → H} {W : World} {v : Value} {d : DataW H} {p : List MemPlace} (h : Q5x enc W 52 v d p) :
  ∃ (A : Option Addr) (len cap : Nat) (ip port : Int), v = .agg (T9 A len cap ip port).toArray ∧ len ≤ maxLen ∧ Y0v W A len := by
 obtain ⟨⟨fuel, hf0⟩, hvb, hsz⟩ := h
 obtain ⟨cs, rfl, hcs⟩ := X7d Tryz.underlying52 hvb
 have hft := Fit.of hsz
 have c3 : Tryz.prog.cellsOf 52 = 3 := by kernel_rfl
 have c9 : Tryz.prog.cellsOf 99 = 9 := by kernel_rfl
 have c7 : Tryz.prog.cellsOf 36 = 7 := by kernel_rfl
 have e_int : Tryz.prog.cellsOf 3 = 1 := by kernel_rfl
 have e_bytes : Tryz.prog.cellsOf 31 = 1 := by kernel_rfl
 have e_ps : Tryz.prog.cellsOf 50 = 1 := by kernel_rfl
 rw [c3] at hcs
 obtain ⟨ys, k, _, ex, _, yl, hf⟩ := DataW.trod_struct Tryz.underlying52 hf0
 simp only [Prod.mk.injEq] at ex
 rw [ex.1] at hft
 have g0 := Fit.struct hft Tryz.underlying52 0 _ rfl _ (List.getElem?_eq_getElem (by rw [yl]; decide))
 obtain ⟨L⟩ := cs
 match L, hcs with
 | [k0, k1, k2], _ =>
  have f0 := hf 0 _ rfl
  have f1 := hf 1 _ rfl
  have f2 := hf 2 _ rfl
  simp only [List.getElem_toArray, List.getElem_cons_zero, List.getElem_cons_succ, e_int, e_ps, List.drop_zero] at f0 f1 f2
  rw [List.getElem?_eq_getElem (by rw [yl]; decide)] at f0 f1 f2
  obtain ⟨n1, e1, _, _⟩ := DataW.trod_int Tryz.underlying3 f1
  obtain ⟨n2, e2, _, _⟩ := DataW.trod_int Tryz.underlying3 f2
  obtain ⟨A, len, cap, fuel2, e0, hl, hc, hi⟩ := X7o Tryz.underlying50 c9 (by decide) g0 f0
  have q0 : [k0] = [Value.slice A len cap] := e0
  have q1 : [k1] = [Value.int .i64 n1] := e1
  have q2 : [k2] = [Value.int .i64 n2] := e2
  simp only [List.cons.injEq, and_true] at q0 q1 q2
  subst q0 q1 q2
  refine ⟨A, len, cap, n1, n2, rfl, Nat.le_trans hl hc, fun i hlt => ?_⟩
  obtain ⟨b, o, cs1, x, hA, hblt, hlen, hcell, htr, hft1⟩ := hi i hlt
  match cs1, hlen with
  | [p0, p1, p2, p3, p4, p5, p6, p7, p8], _ =>
   obtain ⟨zs, _, _, ez, _, zl, hz⟩ := DataW.trod_struct Tryz.underlying99 htr
   rw [ez] at hft1
   have d0 := hz 0 _ rfl
   have d1 := hz 1 _ rfl
   have d2 := hz 2 _ rfl
   simp only [List.getElem_toArray, List.getElem_cons_zero, List.getElem_cons_succ, e_int, e_bytes, c7, List.drop_zero, List.take_succ_cons, List.take_zero, List.drop_succ_cons] at d0 d1 d2
   rw [List.getElem?_eq_getElem (by rw [zl]; decide)] at d0 d1 d2
   have m1 := Fit.struct hft1 Tryz.underlying99 1 _ rfl _ (List.getElem?_eq_getElem (by rw [zl]; decide))
   have m2 := Fit.struct hft1 Tryz.underlying99 2 _ rfl _ (List.getElem?_eq_getElem (by rw [zl]; decide))
   obtain ⟨ss, _, _, es, _, sl, hs⟩ := DataW.trod_struct Tryz.underlying36 d1
   rw [es] at m1
   have s0 := hs 0 _ rfl
   have s1 := hs 1 _ rfl
   have s2 := hs 2 _ rfl
   have s3 := hs 3 _ rfl
   have s4 := hs 4 _ rfl
   have s5 := hs 5 _ rfl
   have s6 := hs 6 _ rfl
   simp only [List.getElem_toArray, List.getElem_cons_zero, List.getElem_cons_succ, e_int, e_bytes, List.drop_zero, List.take_succ_cons, List.take_zero, List.drop_succ_cons] at s0 s1 s2 s3 s4 s5 s6
   rw [List.getElem?_eq_getElem (by rw [sl]; decide)] at s0 s1 s2 s3 s4 s5 s6
   have m6 := Fit.struct m1 Tryz.underlying36 6 _ rfl _ (List.getElem?_eq_getElem (by rw [sl]; decide))
   obtain ⟨who, w0, _, _⟩ := DataW.trod_int Tryz.underlying3 d0
   obtain ⟨t0, w1, _, _⟩ := DataW.trod_int Tryz.underlying3 s0
   obtain ⟨t1, w2, _, _⟩ := DataW.trod_int Tryz.underlying3 s1
   obtain ⟨t2, w3, _, _⟩ := DataW.trod_int Tryz.underlying3 s2
   obtain ⟨t3, w4, _, _⟩ := DataW.trod_int Tryz.underlying3 s3
   obtain ⟨t4, w5, _, _⟩ := DataW.trod_int Tryz.underlying3 s4
   obtain ⟨t5, w6, _, _⟩ := DataW.trod_int Tryz.underlying3 s5
   obtain ⟨xs, As, cs, w7, l7, _, r7⟩ := Y7d m6 s6
   obtain ⟨raw, Ar, cr, w8, l8, z8, r8⟩ := Y7d m2 d2
   have u0 : [p0] = [Value.int .i64 who] := w0
   have u1 : [p1] = [Value.int .i64 t0] := w1
   have u2 : [p2] = [Value.int .i64 t1] := w2
   have u3 : [p3] = [Value.int .i64 t2] := w3
   have u4 : [p4] = [Value.int .i64 t3] := w4
   have u5 : [p5] = [Value.int .i64 t4] := w5
   have u6 : [p6] = [Value.int .i64 t5] := w6
   have u7 : [p7] = [Value.slice As xs.length cs] := w7
   have u8 : [p8] = [Value.slice Ar raw.length cr] := w8
   simp only [List.cons.injEq, and_true] at u0 u1 u2 u3 u4 u5 u6 u7 u8
   subst u0 u1 u2 u3 u4 u5 u6 u7 u8
   refine ⟨b, o, who, ⟨t0, t1, t2, t3, t4, t5, xs⟩, As, cs, raw, Ar, cr, hA, hblt, fun j u hu => ?_, r7, r8, l7, Nat.le_trans l8 z8⟩
   have hj : j < 9 := (List.getElem?_eq_some_iff.1 hu).1
   rw [hcell j hj]
   exact hu
theorem traceExact_lifted (os : Os) (started : os.Started) (H : Type) (enc : TypeId × Value → H) :
  ReturnsInHanded {} Tryz.checked os 4 .any (fun w args => (Rows.traceExactSpec.pre enc Tryz.prog Tryz.f4 [] false w args ∧ laidMetH Tryz.prog J2f w) ∧ sizedMet enc Tryz.prog Tryz.f4 (OpenSpec.ofChange Rows.traceExactSpec) false w args)
   (Rows.traceExactSpec.post enc Tryz.prog Tryz.f4 false true false false) :=
 J1t (C := Tryz.checked) (T := 52) J6q J6r Tryz.func4 Tryz.params4 (by kernel_rfl) Tryz.underlying4 rfl (fun _ _ => rfl) (by kernel_rfl) (of_decide_eq_true (by kernel_rfl)) (by kernel_rfl)
  (fun H enc W v d p h0 hv hs hl => by
   obtain ⟨A, len, cap, ip, port, rfl, hln, ha⟩ := Film.all (enc := enc) ⟨h0, hv, hs⟩
   exact Q3v A len cap ip port W ha hln (Q0n hl)) os started H enc
  (ChangeSpec.witness_shaped (enc := enc) (C := Tryz.checked) (os := os) (X := fun w _ => laidMetH Tryz.prog J2f w) false (Y9m os) #[.agg #[.slice none 0 0, iz 0, iz 0]] 8 rfl (World.shaped_of_RefB (by kernel_rfl) (by kernel_rfl)) (by kernel_rfl) (by kernel_rfl) (by kernel_rfl) (J2h os _))
theorem traceExact_said : Rows.TraceExactSaid :=
 OpenClaim.holds_of_wide 4 Tryz.f4 rfl rfl rfl rfl rfl rfl rfl ⟨rfl, rfl, rfl, rfl, rfl⟩ rfl rfl rfl rfl rfl (by kernel_rfl) Tryz.func4 (by kernel_rfl)
  (of_decide_eq_true (by kernel_rfl)) (by unfold Func.isWrapper; first | (rw [if_pos (by decide +kernel)]; kernel_rfl) | (rw [if_neg (by decide +kernel)]; exact ⟨rfl, rfl⟩))
  (fun os started H enc _ => traceExact_lifted os started H enc)
theorem traceExact_holds : Rows.TraceExactCardSaid :=
 Claim7.holds_tied_plain_at .later [] [.data, .pinned] true (true, "1d6a9c5b39f0021854437d5374770d3a444cede059f5e30cfccef2e5c77247af") false
  traceExact_said (fun _ h => by cases h) (by kernel_rfl) (fun _ h => by cases h) traceExact_row_tie rfl ⟨rfl, rfl⟩ (by kernel_rfl) rfl
  (fun f fn hf hfn => by
   obtain rfl : f = 4 := Option.some.inj ((show Tryz.prog.funcNamed "kiosk/kiosklaw27.TraceExact" = some 4 by kernel_rfl).symm.trans hf) |>.symm
   obtain rfl : fn = Tryz.f4 := (Option.some.inj (Tryz.func4.symm.trans hfn)).symm
   exact ⟨by kernel_rfl, fun j t ht => by
    rw [Tryz.params4] at ht
    have hm : t ∈ [52] := by simpa using Array.mem_of_getElem? ht
    have hall : ([52].all fun u => !Tryz.prog.wantsStandIn u) = true := by kernel_rfl
    exact (show Tryz.prog.wantsStandIn t = false by simpa using List.all_eq_true.1 hall t hm)⟩)
  (by kernel_rfl)
end Go.Proofs.YtlacidnnankjlaaGreatDoor
