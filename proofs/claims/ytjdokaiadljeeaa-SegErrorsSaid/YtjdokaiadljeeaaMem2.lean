/-
  Laws for memory, without a program: append of what is read onto a row of the call's own; copy into such a row.
-/
import Derived.Test.YtjdokaiadljeeaaMem
import Derived.Maps.AppendAt
import Derived.Laws.CopyOwn
import Derived.Laws.Tables
import Derived.Deep.RegionLaw
namespace Go.Proofs.Ytjdokaiadljeeaa
open Go.RowKit

section
variable {P : Program} (w : World)
theorem run_append_of_nil (base : Nat) (t ty e : TypeId) (i : TypeInfo) (size : Nat) (ht : P.underlying t = some (.slice e)) (hi : P.info? e = some i)
    (v : Value) (n : Nat) (xs : List Value) (hown : w.ownsRow base e size v n xs) (c : Nat) : (Builtin.append_ #[t, t] ty #[v, .slice none 0 c]).run P w = .ok v w := by
  rcases hown.2 with ⟨rfl, rfl⟩ | ⟨g, cap, cur, rfl, _, _, hnc, _⟩
  · simp [Builtin.append_, run_underlying ht, sizeOf, typeInfo, hi, Builtin.lenOf, Builtin.firstCells]
  · simp [Builtin.append_, run_underlying ht, sizeOf, typeInfo, hi, Builtin.lenOf, Builtin.firstCells, hnc, storeCells]

/-- append(v, src...): v the call's own, src whatever is read (nil, empty or not). -/
theorem run_append_read (base : Nat) (t ty e : TypeId) (z : Value) (size bytes : Nat) (ht : P.underlying t = some (.slice e)) (hi : (P.info? e).map (fun i => (i.zero, i.size, i.bytes)) = some (some z, size, bytes)) (hzs : z.cells.size = size) (hsz : 0 < size)
    (v : Value) (n : Nat) (xs : List Value) (hown : w.ownsRow base e size v n xs)
    (B : Nat) (A : Option Addr) (m c : Nat) (news : List Value) (hr : Reads w B size A m news) (h1 : ∀ u ∈ news, u.oneCell' = true)
    (h63 : n + m ≤ maxLen) (hbytes : (n + m) * bytes ≤ 140737488355328) (hbase : base ≤ w.heap.size) :
    ∃ A' c' w', (Builtin.append_ #[t, t] ty #[v, .slice A m c]).run P w = .ok (.slice A' (n + m) c') w' ∧ w'.ownsRow base e size (.slice A' (n + m) c') (n + m) (xs ++ news) ∧ w.grownBy w' v.ownBlock := by
  obtain ⟨i, hi0, hz0, hz1, hz2⟩ := info_parts hi
  rcases A with _ | ad
  · have hm : m = 0 := by
      rcases Nat.eq_zero_or_pos m with h0 | h0
      · exact h0
      · obtain ⟨ad, h, _⟩ := hr.2 h0
        cases h
    subst hm
    have hn : news = [] := List.eq_nil_of_length_eq_zero (by simpa using hr.1)
    subst hn
    obtain ⟨A, c1, rfl, _, _⟩ := own_shape hown
    exact ⟨A, c1, w, run_append_of_nil w base t ty e i size ht hi0 _ n xs hown c, by simpa using hown, World.grownBy.refl w _⟩
  · have hcells : ∀ j u, news[j]? = some u → w.cell? (ad.add j) = some u := by
      intro j u hu
      rcases Nat.eq_zero_or_pos m with h0 | h0
      · subst h0
        have hn : news = [] := List.eq_nil_of_length_eq_zero (by simpa using hr.1)
        subst hn
        simp at hu
      · obtain ⟨ad', h, _, hc⟩ := hr.2 h0
        injection h with h
        subst h
        exact hc j u hu
    obtain ⟨v', w', hrun, h2, h3, _, _⟩ := run_append_own_at (P := P) w base t ty e i z size bytes ht hi0 hz0 hz1 hz2 hzs hsz v n xs hown ad m c news hr.1 hcells h1 h63 hbytes hbase
    obtain ⟨A', c', rfl, _, _⟩ := own_shape h2
    exact ⟨A', c', w', hrun, h2, h3⟩
end

theorem own_form {w : World} {base : Nat} {e : TypeId} {size n c : Nat} {A : Option Addr} {xs : List Value} (h : w.ownsRow base e size (.slice A n c) n xs) (hn : 0 < n) : ∃ g, A = some ⟨g, 0, none⟩ ∧ base ≤ g ∧ g < w.heap.size := by
  obtain ⟨g, cap, hA, hg, hg2⟩ := h.form hn
  injection hA with hA _ _
  exact ⟨g, hA, hg, hg2⟩
theorem bv_one (xs : List UInt8) : ∀ u ∈ xs.map bv, u.oneCell' = true := by
  intro u hu
  obtain ⟨x, _, rfl⟩ := List.mem_map.1 hu
  rfl

/-- append(v, src...) of bytes, at the list of a plain region. -/
theorem wpList_append_bytes {P : Program} {w0 w : World} {ops : Array Oper} {rest : List Oper} {o : Oper} {a : Act} {Q : Exit → Act → World → Prop} (B : Nat) (hb : Below B w0 w) (hgd : o.guard = none) (s x : Operand) (t : TypeId)
    (ho : o.op = .call { callee := .builtin .append, args := #[s, x], argTypes := #[t, t] })
    (base : Nat) (e : TypeId) (ht : P.underlying t = some (.slice e)) (hi : (P.info? e).map (fun i => (i.zero, i.size, i.bytes)) = some (some (.int .u8 0), 1, 1))
    (v : Value) (n : Nat) (xs : List UInt8) (hs : a.eval s = v) (hown : w.ownsRow base e 1 v n (xs.map bv)) (A : Option Addr) (m c : Nat) (ys : List UInt8) (hm : ys.length = m) (hx : a.eval x = .slice A m c) (hr : RB w w.heap.size A ys)
    (hn : n + m ≤ 140737488355328) (hbase : base ≤ w.heap.size) (hB : B ≤ base)
    (h : ∀ A' c' w', w'.ownsRow base e 1 (.slice A' (n + m) c') (n + m) ((xs ++ ys).map bv) → Below B w0 w' → wpList P ops Q rest (a.put o.dst (.slice A' (n + m) c')) w') :
    wpList P ops Q (o :: rest) a w := by
  subst hm
  refine wpList_plain hgd fun K hK => ?_
  obtain ⟨A', c', w', hrun, h2, h3⟩ := run_append_read (P := P) w base t o.type e (.int .u8 0) 1 1 ht hi rfl (by decide) v n (xs.map bv) hown w.heap.size A ys.length c (ys.map bv) hr (bv_one ys) (by unfold maxLen; omega) (by omega) hbase
  unfold Oper.wp execOp
  simp only [ho, resolve, invoke, builtin, Sem.run_bind, Sem.run_pure, Result.andThen_ok, List.map_toArray, List.map_cons, List.map_nil, hs, hx, hrun]
  refine hK _ _ (h A' c' w' (by rw [List.map_append]; exact h2) (hb.grown h3 (by omega) ?_))
  intro k hk
  exact Nat.le_trans hB (hown.lt k hk).1

/-- what is owned, its first cells written over from 'off' on. -/
theorem own_splice {w : World} {base g n cap : Nat} {e : TypeId} {xs : List UInt8} (hown : w.ownsRow base e 1 (.slice (some ⟨g, 0, none⟩) n cap) n (xs.map bv)) (off : Nat) (ys : List UInt8) (hfit : off + ys.length ≤ n) :
    ∃ cur, w.heap[g]? = some (.cells cur e (0, 0)) ∧ off + (ys.map bv).length ≤ cur.size ∧
      (w.setRow g (cur.toList.take off ++ (ys.map bv) ++ cur.toList.drop (off + (ys.map bv).length)).toArray).ownsRow base e 1 (.slice (some ⟨g, 0, none⟩) n cap) n ((xs.take off ++ ys ++ xs.drop (off + ys.length)).map bv) := by
  obtain ⟨hl, h2⟩ := hown
  have hl' : xs.length = n := by simpa using hl
  rcases h2 with ⟨h, _⟩ | ⟨g', cap', cur, hv, hg, hh, hc, hm, hsz, htk⟩
  · cases h
  · injection hv with h1 _ h3
    injection h1 with h1
    injection h1 with h1
    subst h1; subst h3
    have hcur : cur.toList.length = cap := by simpa using hsz
    refine ⟨cur, hh, by simp; omega, by simp; omega, Or.inr ⟨g, cap, _, rfl, hg, setRow_heap w g cur _ e (0, 0) hh, hc, hm, ?_, ?_⟩⟩
    · simp only [List.size_toArray, List.length_append, List.length_take, List.length_drop, List.length_map, hcur, Nat.mul_one]
      omega
    · rw [Nat.mul_one] at htk ⊢
      have e1 : cur.toList = xs.map bv ++ cur.toList.drop n := by rw [← htk, List.take_append_drop]
      have e2 : cur.toList.take off = (xs.take off).map bv := by
        rw [e1, List.take_append_of_le_length (by simp; omega), List.map_take]
      have e3 : cur.toList.drop (off + ys.length) = (xs.drop (off + ys.length)).map bv ++ cur.toList.drop n := by
        conv => lhs; rw [e1]
        rw [List.drop_append_of_le_length (by simp; omega), List.map_drop]
      simp only [List.length_map]
      rw [e2, e3, ← List.append_assoc, ← List.map_append, ← List.map_append]
      rw [List.take_append_of_le_length (by simp; omega)]
      rw [List.take_of_length_le (by simp; omega)]

theorem only_setRow (g : Nat) (w : World) (cs : Array Value) : Only g w (w.setRow g cs) :=
  ⟨fun a ha => cell_setRow_other w g cs a ha, size_setRow w g cs, fun _ _ hb hB => below_setRow hb hB cs⟩

/-- copy into a row of the call's own, from what is read: as one step of a region that draws. -/
theorem step_copy_bytes {P : Program} {ops : Array Oper} {o : Oper} {a : Act} {w : World} {K : Act → World → Prop} {Q : Exit → Act → World → Prop} {E : Prop} (hgd : o.guard = none) (d s : Operand) (dT sT : TypeId)
    (ho : o.op = .call { callee := .builtin .copy, args := #[d, s], argTypes := #[dT, sT] }) (elem : TypeId) (hu : P.underlying dT = some (.slice elem)) (hsz : (P.info? elem).map (·.size) = some 1)
    (g off dLen dCap : Nat) (A : Option Addr) (sLen sCap : Nat) (hd : a.eval d = .slice (some ⟨g, off, none⟩) dLen dCap) (hs : a.eval s = .slice A sLen sCap)
    (base n cap : Nat) (xs ys : List UInt8) (hown : w.ownsRow base elem 1 (.slice (some ⟨g, 0, none⟩) n cap) n (xs.map bv)) (hr : RB w w.heap.size A ys) (hl : ys.length = sLen) (hle : ys.length ≤ dLen) (hfit : off + ys.length ≤ n) (h0 : 0 < ys.length)
    (h : ∀ w', w'.ownsRow base elem 1 (.slice (some ⟨g, 0, none⟩) n cap) n ((xs.take off ++ ys ++ xs.drop (off + ys.length)).map bv) → Only g w w' → K (a.put o.dst (goInt ys.length)) w') :
    if Region.wanted o (yielded ops a.tmps) = true then Oper.wp P o a w K Q else E := by
  have hw : Region.wanted o (yielded ops a.tmps) = true := by simp [Region.wanted, hgd]
  rw [if_pos hw]
  subst hl
  obtain ⟨ad, rfl, _, hc⟩ := hr.2 h0
  obtain ⟨cur, hg, hf, ho2⟩ := own_splice hown off ys hfit
  have hrun := run_copy_row (P := P) w dT sT o.type elem g off dLen dCap ad ys.length sCap cur elem (ys.map bv) hu hsz hg (by simp [Nat.min_eq_left hle]) hc hf (bv_one ys)
  unfold Oper.wp
  simp [execOp, ho, resolve, invoke, builtin, hd, hs, hrun, Result.andThen]
  simp only [List.length_map] at ho2
  have := h _ ho2 (only_setRow g w _)
  rw [Oper.upon_value]
  simpa using this

end Go.Proofs.Ytjdokaiadljeeaa
