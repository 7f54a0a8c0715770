/-
  How arguments read: bytes; slices whose elements take several cells, element by element.
-/
import Derived.Test.YtjdokaiadljeeaaRow
namespace Go.Proofs.Ytjdokaiadljeeaa
open Go.ChangeShapes Go.WideShapes Go.ChangeAt Go.RowKit Go.Deep

theorem cells_u8 : Try.prog.cellsOf 5 = 1 := by kernel_rfl
theorem wf_byte {n : Int} (h : (Lit.int .u8 n).wf = true) : ∃ x : UInt8, n = (x.toNat : Int) := by
  have h1 : IntKind.u8.min = 0 := rfl
  have h2 : IntKind.u8.max = 255 := rfl
  simp only [Lit.wf, Bool.and_eq_true, decide_eq_true_eq] at h
  refine ⟨UInt8.ofNat n.toNat, ?_⟩
  rw [UInt8.toNat_ofNat']
  omega
theorem wf_i64 {n : Int} (h : (Lit.int .i64 n).wf = true) : -9223372036854775808 ≤ n ∧ n ≤ 9223372036854775807 := by
  have h1 : IntKind.i64.min = -9223372036854775808 := rfl
  have h2 : IntKind.i64.max = 9223372036854775807 := rfl
  simp only [Lit.wf, Bool.and_eq_true, decide_eq_true_eq] at h
  omega
theorem wf_u32 {n : Int} (h : (Lit.int .u32 n).wf = true) : ∃ s : Nat, n = (s : Int) ∧ s < 4294967296 := by
  have h1 : IntKind.u32.min = 0 := rfl
  have h2 : IntKind.u32.max = 4294967295 := rfl
  simp only [Lit.wf, Bool.and_eq_true, decide_eq_true_eq] at h
  exact ⟨n.toNat, by omega, by omega⟩

/-- each part of a datum is within the form's reach. -/
def Fit {H : Type} (t : TypeId) (d : DataW H) : Prop := ∀ n ∈ DataW.weights Try.prog t d, n ≤ 140737488351232
theorem Fit.of {H : Type} {T : TypeId} {d : DataW H} (h : (DataW.weightsEach Try.prog [T] [d]).all (· ≤ reachBytes) = true) : Fit T d := by
  intro n hn
  have := List.all_eq_true.1 h n (DataW.weights_mem_each (j := 0) rfl rfl n hn)
  have h2 : n ≤ reachBytes := by simpa using this
  exact h2
theorem Fit.slice {H : Type} {t e : TypeId} {elems spare : List (DataW H)} (h : Fit t (.slice elems spare)) (ht : Try.prog.underlying t = some (.slice e)) :
    (elems.length + spare.length) * Try.prog.bytesOf e ≤ 140737488351232 ∧ ∀ x ∈ elems, Fit e x := by
  have hw : DataW.weights Try.prog t (.slice elems spare) = (elems.length + spare.length) * Try.prog.bytesOf e :: (DataW.weightsAll Try.prog e elems ++ DataW.weightsAll Try.prog e spare) := by
    simp [DataW.weights, ht]
  unfold Fit at h
  rw [hw] at h
  refine ⟨h _ (by simp), fun x hx n hn => h n ?_⟩
  have : ∀ l : List (DataW H), x ∈ l → n ∈ DataW.weightsAll Try.prog e l := by
    intro l
    induction l with
    | nil => intro h; cases h
    | cons a r ih =>
      intro h
      simp only [DataW.weightsAll, List.mem_append]
      rcases List.mem_cons.1 h with rfl | h
      · exact Or.inl hn
      · exact Or.inr (ih h)
  simp [this elems hx]
theorem Fit.struct {H : Type} {t : TypeId} {fs : Array Field} {ys : List (DataW H × List MemPlace)} (h : Fit t (.agg (ys.map (·.1)))) (ht : Try.prog.underlying t = some (.struct fs)) (j : Nat) (f : Field) (hf : fs[j]? = some f) (y : DataW H × List MemPlace) (hy : ys[j]? = some y) : Fit f.type y.1 := by
  intro n hn
  refine h n ?_
  have hw : DataW.weights Try.prog t (.agg (ys.map (·.1))) = DataW.weightsEach Try.prog (fs.toList.map (·.type)) (ys.map (·.1)) := by simp [DataW.weights, ht]
  rw [hw]
  refine DataW.weights_mem_each (j := j) (t := f.type) (d := y.1) ?_ ?_ n hn
  · rw [List.getElem?_map]
    simp [hf]
  · rw [List.getElem?_map, hy]; rfl
theorem bytes_u8 : Try.prog.bytesOf 5 = 1 := by kernel_rfl

section
variable {H : Type} {enc : TypeId × Value → H} {W : World}
theorem list_bytes {zs : List Int} (h : ∀ n ∈ zs, (Lit.int .u8 n).wf = true) : ∃ xs : List UInt8, zs = xs.map (fun x => (x.toNat : Int)) := by
  induction zs with
  | nil => exact ⟨[], rfl⟩
  | cons z zs ih =>
    obtain ⟨xs, rfl⟩ := ih (fun n hn => h n (List.mem_cons_of_mem _ hn))
    obtain ⟨x, hx⟩ := wf_byte (h z (List.mem_cons_self ..))
    exact ⟨x :: xs, by rw [hx]; rfl⟩
/-- bytes that came in. -/
theorem read_bytes {n : Nat} {cs : List Value} {x : DataW H × List MemPlace} (hfit : Fit 24 x.1) (h : DataW.trod enc Try.prog W 0 (fun _ => true) true n 24 cs = some x) :
    ∃ (xs : List UInt8) (A : Option Addr) (c : Nat), cs = [.slice A xs.length c] ∧ xs.length ≤ c ∧ c ≤ 140737488351232 ∧ RB W W.heap.size A xs := by
  rcases open_ints Try.underlying24 Try.underlying5 cells_u8 h with ⟨hcs, _⟩ | ⟨a, len, cap, zs, hcs, _, hl, _, hz, hxe, hc, hw⟩
  · exact ⟨[], none, 0, hcs, by simp, by simp, RB.nil⟩
  · obtain ⟨xs, rfl⟩ := list_bytes hw
    simp only [if_true, List.length_map] at hz
    have hm : cap ≤ 140737488351232 := by
      rw [hxe] at hfit
      have := (hfit.slice Try.underlying24).1
      rw [bytes_u8] at this
      simp [lits] at this
      omega
    refine ⟨xs.take len, some a, cap, ?_, ?_, hm, ?_, ?_⟩
    · rw [hcs, List.length_take, Nat.min_eq_left (by omega)]
    · rw [List.length_take]; omega
    · simp
    · intro hn
      rw [List.length_take] at hn
      have h0 := hc 0 (by simp; omega)
      have hlt : a.block < W.heap.size := by
        have := World.block_lt_of_cell? W _ h0
        rwa [block_of_add] at this
      refine ⟨a, rfl, hlt, ?_⟩
      intro j u hu
      have hj : j < (xs.take len).length := by
        rcases Nat.lt_or_ge j (xs.take len).length with h1 | h1
        · exact h1
        · rw [List.getElem?_eq_none (by simpa using h1)] at hu; cases hu
      rw [List.length_take] at hj
      have hjx : j < xs.length := by omega
      rw [hc j (by simpa using hjx)]
      rw [List.getElem?_map, List.getElem?_take_of_lt (by omega), List.getElem?_eq_getElem hjx] at hu
      simp only [Option.map_some, Option.some.injEq] at hu
      rw [← hu]
      simp [List.getD, List.getElem?_eq_getElem hjx]

/-- a slice whose elements take m cells each (m not 0), element by element. -/
theorem read_rows {T e : TypeId} {m : Nat} {v : Value} {d : DataW H} {p : List MemPlace} (ht : Try.prog.underlying T = some (.slice e)) (hm : Try.prog.cellsOf e = m) (hm0 : 0 < m) (h : Comes enc W T v d p) :
    ∃ (A : Option Addr) (len cap fuel : Nat), v = .slice A len cap ∧ len ≤ cap ∧ cap ≤ maxLen ∧ ∀ i, i < len → ∃ (b o : Nat) (cs : List Value) (x : DataW H × List MemPlace), A = some ⟨b, o, none⟩ ∧ b < W.heap.size ∧ cs.length = m ∧ (∀ j, j < m → W.cell? ⟨b, o + i * m + j, none⟩ = cs[j]?) ∧
      DataW.trod enc Try.prog W 0 (fun _ => true) true fuel e cs = some x ∧ Fit e x.1 := by
  obtain ⟨⟨fuel, hf⟩, ⟨base, hv⟩, hsz⟩ := h
  obtain ⟨a0, len, cap, rfl⟩ := okWide_slice ht hv
  rcases open_slice ht hf with ⟨hcs, _⟩ | ⟨a, len', cap', m', n, D, Pl, hcs, _, hl, hc, hmm, hxe, hi⟩
  · simp [Value.cells] at hcs
    obtain ⟨rfl, rfl, rfl⟩ := hcs
    exact ⟨none, 0, 0, 0, rfl, by omega, by simp, fun i hi => absurd hi (by omega)⟩
  · simp [Value.cells] at hcs
    obtain ⟨rfl, rfl, rfl⟩ := hcs
    simp only [if_true] at hmm
    refine ⟨some a, len, cap, n, rfl, hl, hc, fun i hlt => ?_⟩
    obtain ⟨cs', hcell, htr⟩ := hi i (by omega)
    obtain ⟨_, hlen, hat⟩ := World.cells?_some hcell
    rw [hm] at hlen
    have h0 := hat 0 (by omega)
    rw [List.getElem?_eq_getElem (by omega)] at h0
    obtain ⟨b, o, spot⟩ := a
    have hspot : spot = none := by
      obtain ⟨cs0, hcell0, _⟩ := hi 0 (by omega)
      obtain ⟨_, hlen0, hat0⟩ := World.cells?_some hcell0
      rw [hm] at hlen0
      have h00 := hat0 0 (by omega)
      rw [List.getElem?_eq_getElem (by omega)] at h00
      have := World.cell?_spot h00
      simpa [Addr.add] using this
    subst hspot
    have hb := World.block_lt_of_cell? W _ h0
    rw [block_of_add, block_of_add] at hb
    refine ⟨b, o, cs', _, rfl, hb, hlen, fun j hj => ?_, htr, ?_⟩
    rotate_left
    · simp only [Prod.mk.injEq] at hxe
      have hft := Fit.of hsz
      rw [hxe.1] at hft
      exact (hft.slice ht).2 _ (List.mem_map.2 ⟨i, List.mem_range.2 hlt, rfl⟩)
    have := hat j (by omega)
    rw [add_add, hm] at this
    rw [← this]
    congr 1
    unfold Addr.add
    by_cases h1 : i * m + j = 0
    · rw [if_pos h1, Nat.add_assoc, h1]; simp
    · rw [if_neg h1, Nat.add_assoc]
end

end Go.Proofs.Ytjdokaiadljeeaa
