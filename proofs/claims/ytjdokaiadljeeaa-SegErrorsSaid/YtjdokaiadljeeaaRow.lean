/-
  From a walk to a row, for a law of one argument that answers a bool and leaves its argument alone.
-/
import Derived.Test.YtjdokaiadljeeaaMem
import Derived.Test.YtjdokaiadljeeaaRows
import Derived.ProofKit
import Derived.SizedLaws
import Derived.Carry
import Derived.ChangeSame
import Derived.Deep.Slices
import Derived.Deep.Fields
namespace Go.Proofs.Ytjdokaiadljeeaa
open Go.ChangeShapes Go.WideShapes Go.ChangeAt Go.RowKit Go.Deep

theorem own_knob : ownKnob Try.prog.godebug = none := by kernel_rfl
theorem laid_out : laidOutB Try.prog = true := by kernel_rfl

section
variable {H : Type} {enc : TypeId × Value → H} {P : Program}
theorem post_of_below {f : Func} {s : ChangeSpec} {apart fresh handsOn again : Bool} {W W' : World} {args : Array Value} {v : Value} {ds gs : List (DataW H)} {before pa pv : List MemPlace}
    (hW : DataW.Whole enc P f.params.toList s.vars apart W args.toList ds gs before)
    (hres : ∀ (b : Nat) (sp : Nat → Bool) (hd : Bool), DataW.TrodAll enc P W' b sp hd f.resultTypes.toList (v.resultList f.resultTypes.size) (s.fn H (ds ++ gs)).results [])
    (hargs : ∀ sp : Nat → Bool, (∀ p ∈ before, sp p.block = true) → DataW.TrodAll enc P W' 0 sp true f.params.toList args.toList (s.fn H (ds ++ gs)).args pa)
    (hvars : ∀ sp : Nat → Bool, (∀ p ∈ before, sp p.block = true) → DataW.TrodVars enc P W' sp s.vars (s.fn H (ds ++ gs)).vars pv)
    (hps : before = pa ++ pv) (hb : Below W.heap.size W W')
    (hok : ∀ (j : Nat) (t : TypeId) (r : Value), f.resultTypes[j]? = some t → (v.resultList f.resultTypes.size)[j]? = some r → Value.okWide P W' .any 0 t r) :
    s.post enc P f apart fresh handsOn again W args v W' := by
  have hlt : ∀ p ∈ before, p.block < W.heap.size := fun p hp => hW.lt p hp
  have hold : ∀ p ∈ before, (fun b => decide (b < W.heap.size)) p.block = true := fun p hp => by simpa using hlt p hp
  refine ⟨ds, gs, before, [], pa, pv, hW, hres _ _ _, hargs _ hold, hvars _ hold, World.keptBut_mono (fun p hp => ⟨hp, ?_⟩) (hb.frame (· ∈ before)), fun _ => ?_⟩
  · rw [hps, List.mem_append] at hp
    exact Or.inr hp
  · obtain ⟨_, _, _, _, _, hz, hn⟩ := hW
    refine ⟨hok, _, _, ([] ++ pa) ++ pv, ⟨[] ++ pa, pv, trodAll_append (hargs _ (fun _ _ => rfl)) (hres _ _ _), hvars _ (fun _ _ => rfl), rfl, ?_, ?_⟩, ?_⟩
    · intro b off hp
      have hin : MemPlace.cell b off ∈ before := by rw [hps]; simpa using hp
      rw [hb.frozen (hlt _ hin)]
      exact hz b off hin
    · intro ha
      have := hn ha
      rw [hps] at this
      simpa using this
    · intro p hp _
      rw [hps]
      simpa using hp
end

/-- what a law's argument brings: the value, its reading, and that each part is within the form's reach. -/
def Comes {H : Type} (enc : TypeId × Value → H) (W : World) (T : TypeId) (v : Value) (d : DataW H) (p : List MemPlace) : Prop :=
  DataW.Trod enc Try.prog W 0 (fun _ => true) true T v d p ∧ (∃ base, Value.okWide Try.prog W .any base T v) ∧ (DataW.weightsEach Try.prog [T] [d]).all (· ≤ reachBytes) = true

/-- FROM A WALK TO THE LIFTED FORM: a law of one argument of type T: it answers true, and nothing that was there has turned. -/
theorem law_lifted {K : FuncId} {fn : Func} {T : TypeId} {s : ChangeSpec} (hK : Try.prog.funcs[K]? = some fn) (hp : fn.params = #[T]) (hr : fn.resultTypes = #[4]) (_hpar : fn.params.size = 1)
    (hvars : s.vars = []) (hfn : ∀ (H : Type) (d : DataW H), s.fn H [d] = { results := [.lit (.bool true)], args := [d] })
    (hT : Try.prog.readableRec T = true) (hTs : T < Try.prog.types.size) (noInit : Try.prog.inits.idxOf? K = none)
    (walk : ∀ (H : Type) (enc : TypeId × Value → H) (W : World) (v : Value) (d : DataW H) (p : List MemPlace), Comes enc W T v d p → Calls Try.prog K #[v] W fun e W' => e = .returned (.bool true) ∧ Below W.heap.size W W')
    (os : Os) (started : os.Started) (H : Type) (enc : TypeId × Value → H)
    (witness : ∃ (w : World) (tape : Tape) (i : Input), w.os = os ∧ (w.forCall tape i).Shaped Try.prog ∧ i.vars = [] ∧ Input.okWide Try.prog (w.forCall tape i) .any w.heap.size K i ∧
      s.pre6 enc Try.prog fn [] false (w.forCall tape i).memory i.args ∧ ({} : Assume).holds Try.prog (lone (Frame.enter Try.prog K i.args .normal) [] (w.forCall tape i))) :
    ReturnsInHanded {} Try.checked os K .any (s.pre6 enc Try.prog fn [] false) (s.post enc Try.prog fn false true false false) := by
  refine returnsInHanded_of_change_sized (C := Try.checked) own_knob started noInit hK witness ?_
  intro W base args ds gs before hval0 hW _ hsz0 _
  have hW' := hW
  obtain ⟨p, q, hA, hV, rfl, _, _⟩ := hW
  rw [hvars] at hV
  obtain ⟨rfl, rfl⟩ := trodVars_none hV
  rw [hp] at hA
  obtain ⟨v, d, rfl, rfl, h0⟩ := trodAll_one hA
  have hsz : (DataW.weightsEach Try.prog [T] [d]).all (· ≤ reachBytes) = true := by
    have h : (DataW.weightsEach Try.prog (fn.params.toList ++ s.plain.varTypes Try.prog) ([d] ++ [])).all (· ≤ reachBytes) = true := hsz0
    rw [hp] at h
    simpa [DataSpec.varTypes, ChangeSpec.plain, hvars] using h
  have hv : Value.okWide Try.prog W .any base T v := hval0 0 T v (by rw [hp]; rfl) rfl
  have hlt : ∀ x ∈ p, x.block < W.heap.size := fun x hx => hW'.lt x (by simpa using hx)
  refine (walk H enc W v d p ⟨h0, ⟨base, hv⟩, hsz⟩).mono fun e W' ⟨he, hb⟩ => ?_
  refine ⟨_, he, post_of_below (pa := p) (pv := []) hW' ?_ ?_ ?_ (by simp) hb ?_⟩
  · intro b sp hd
    rw [hr, List.append_nil, hfn]
    exact trodAll_mk1 (shut_bool Try.underlying4 true)
  · intro sp hsp
    rw [hp, List.append_nil, hfn]
    exact trodAll_mk1 (WideElems.Trod_stays laid_out hT hTs h0 (fun x hx => hb.same (hlt x hx)) (fun x hx => hsp x (by simpa using hx)))
  · intro sp _
    rw [hvars, List.append_nil, hfn]
    rfl
  · rw [hr]
    intro j t r hj hr'
    match j, hj, hr' with
    | 0, hj, hr' =>
      simp [Value.resultList] at hj hr'
      subst hj; subst hr'
      exact okWide_bool_mk Try.underlying4 true
    | j + 1, hj, _ => simp at hj

end Go.Proofs.Ytjdokaiadljeeaa
