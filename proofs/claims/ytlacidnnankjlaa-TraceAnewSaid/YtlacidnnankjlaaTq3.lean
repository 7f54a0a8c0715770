/-
  reasm.parts: the pieces that are there.
-/
import Derived.Lib.SlBytesConst
import Derived.Lib.BufferRead
import Derived.Test.YtlacidnnankjlaaRows
import Derived.ProofKit
import Derived.SizedLaws
import Derived.Carry
import Derived.ChangeSame
import Derived.Deep.Slices
import Derived.Deep.Fields
import Derived.LaidMore
import Derived.LaidLaws
import Derived.Handed
import Derived.Stop.Joined
import Derived.Test.YtlacidnnankjlaaTq2
namespace Go.Proofs.Ytlacidnnankjlaa
open Go.RowKit

/-- the pieces that are there, from a place on. -/
inductive Runs (m : List (Option UInt8)) : Nat → List (Nat × List UInt8) → Prop
  | done {i : Nat} (h : ∀ j, i ≤ j → j < m.length → m[j]? = some none) : Runs m i []
  | run {i a b : Nat} {xs : List UInt8} {l : List (Nat × List UInt8)} (h1 : i ≤ a) (h2 : ∀ j, i ≤ j → j < a → m[j]? = some none) (h3 : a < b) (h4 : b ≤ m.length) (h5 : ∀ j, a ≤ j → j < b → ∃ x, m[j]? = some (some x) ∧ xs[j - a]? = some x) (h6 : xs.length = b - a) (h7 : b = m.length ∨ m[b]? = some none) (h : Runs m b l) : Runs m i ((a, xs) :: l)
/-- the bytes of a window. -/
def winY (m : List (Option UInt8)) : List UInt8 := m.map fun o => o.getD 0
theorem allC_eq (m : List (Option UInt8)) : allC m = (winY m).map bv := by
  unfold allC winY
  rw [List.map_map]
  rfl
theorem winY_len (m : List (Option UInt8)) : (winY m).length = m.length := List.length_map _
theorem rb_cells {w : World} {g B : Nat} {xs : List UInt8} (hC : Cells w g (xs.map bv)) (hg : g < B) : RB w B (some ⟨g, 0, none⟩) xs :=
  ⟨by rw [List.length_map, Nat.mul_one], fun _ => ⟨_, rfl, hg, fun j u hu => by rw [Addr.add_mid, Nat.zero_add]; exact hC.get j u hu⟩⟩
/-- pieces as a row of parts. -/
def PP (w : World) (b nq : Nat) (l : List (Nat × List UInt8)) (cs : List Value) : Prop :=
  cs.length = l.length * 2 ∧ ∀ k p, l[k]? = some p → ∃ v, cs[k * 2]? = some (.int .i64 (spAdd nq p.1 : Nat)) ∧ cs[k * 2 + 1]? = some v ∧ RowIs b p.2 v w
theorem RowIs.beneath {b : Nat} {xs : List UInt8} {v : Value} {w w' : World} (h : RowIs b xs v w) (hb : Below w.heap.size w w') : RowIs b xs v w' := by
  obtain ⟨A, c, e, h⟩ := h
  exact ⟨A, c, e, own_below h hb⟩
theorem RowIs.apart {b b' s n T : Nat} {xs : List UInt8} {v u : Value} {ys : List Value} {w w' : World} (h : RowIs b xs v w) (hO : w.ownsRow b' T s u n ys) (hg : w.grownBy w' u.ownBlock) (hT : Nat.beq 5 T = false) : RowIs b xs v w' := by
  obtain ⟨A, c, e, h⟩ := h
  exact ⟨A, c, e, h.kept hg (own_apart h hO hT)⟩
theorem PP.beneath {w w' : World} {b nq : Nat} {l : List (Nat × List UInt8)} {cs : List Value} (h : PP w b nq l cs) (hb : Below w.heap.size w w') : PP w' b nq l cs := by
  refine ⟨h.1, fun k p hk => ?_⟩
  obtain ⟨v, h1, h2, h3⟩ := h.2 k p hk
  exact ⟨v, h1, h2, h3.beneath hb⟩
theorem PP.apart {w w' : World} {b nq b' s n T : Nat} {l : List (Nat × List UInt8)} {cs ys : List Value} {u : Value} (h : PP w b nq l cs) (hO : w.ownsRow b' T s u n ys) (hg : w.grownBy w' u.ownBlock) (hT : Nat.beq 5 T = false) : PP w' b nq l cs := by
  refine ⟨h.1, fun k p hk => ?_⟩
  obtain ⟨v, h1, h2, h3⟩ := h.2 k p hk
  exact ⟨v, h1, h2, h3.apart hO hg hT⟩
theorem PP.snoc {w : World} {b nq : Nat} {l : List (Nat × List UInt8)} {cs : List Value} (h : PP w b nq l cs) {a : Nat} {xs : List UInt8} {v : Value} (hr : RowIs b xs v w) : PP w b nq (l ++ [(a, xs)]) (cs ++ [.int .i64 (spAdd nq a : Nat), v]) := by
  refine ⟨by rw [List.length_append, List.length_append, h.1]; simp only [List.length_cons, List.length_nil]; omega, fun k p hk => ?_⟩
  rcases Nat.lt_or_ge k l.length with hlt | hge
  · rw [List.getElem?_append_left hlt] at hk
    obtain ⟨u, h1, h2, h3⟩ := h.2 k p hk
    exact ⟨u, by rw [List.getElem?_append_left (by rw [h.1]; omega)]; exact h1, by rw [List.getElem?_append_left (by rw [h.1]; omega)]; exact h2, h3⟩
  · rw [List.getElem?_append_right hge] at hk
    have hk0 : k - l.length = 0 := by
      rcases Nat.eq_zero_or_pos (k - l.length) with h0 | h0
      · exact h0
      · rw [List.getElem?_eq_none (by simp only [List.length_singleton]; omega)] at hk; cases hk
    rw [hk0] at hk
    have hk : (a, xs) = p := by simpa using hk
    subst hk
    refine ⟨v, ?_, ?_, hr⟩
    · rw [List.getElem?_append_right (by rw [h.1]; omega), show k * 2 - cs.length = 0 by rw [h.1]; omega]; rfl
    · rw [List.getElem?_append_right (by rw [h.1]; omega), show k * 2 + 1 - cs.length = 1 by rw [h.1]; omega]; rfl
theorem slice_clip (A : Option Addr) (n c : Nat) (h3 : n ≤ c) (w : World) : (Instr.sliceAt 47 (.slice A n c) none (some (.int .i64 (n : Int))) (some (.int .i64 (n : Int)))).run Try.prog w = .ok (.slice A n n) w := by
  simp [go_sem]
  omega
theorem partsClip (A : Option Addr) (n c : Nat) (h3 : n ≤ c) (w : World) : Calls Try.prog 37 #[.slice A n c] w fun e w' => e = .returned (.slice A n n) ∧ w = w' := by
  go_enter Try.func37, Try.ntmps37
  refine Has.start 9 [(0, .slice A n c)] rfl rfl ⟨rfl, trivial⟩ ?_
  intro a0 H0
  refine H0.rg 1 fun a H => nt ?_
  refine H.rg 2 fun a H => ?_
  refine H.len gz rfl rfl rfl rfl Try.underlying47 fun a H => ?_
  refine H.ms 1 fun a H => ?_
  refine H.len gz rfl rfl rfl rfl Try.underlying47 fun a H => ?_
  refine H.go (w' := w) gz rfl rfl (.slice A n n) (by
    unfold execOp
    simp only [H.ev (x := .tmp 3) rfl, H.ev (x := .tmp 5) rfl, H.ev (x := .tmp 7) rfl, Option.map_some, Option.map_none, Sem.run_bind, slice_clip A n c h3, Result.andThen_ok, Sem.run_pure]) fun a H => ?_
  refine H.ms 1 fun a H => nt (wp_ret ?_)
  repeat (first | (with_reducible refine block_ret ?_) | (with_reducible refine then_ret ?_))
  exact bodyPost_ret (results_tmp rfl _ _ _) H.df ⟨congrArg Ending.returned (H.at_ 2 _ rfl), rfl⟩
theorem info_part : (Try.prog.info? 81).map (fun i => (i.zero, i.size, i.bytes)) = some (some (.agg #[.int .i64 0, nilV]), 2, 32) := by kernel_rfl
theorem cloneR (y : List UInt8) (n : Nat) (hn : y.length = n) (A : Option Addr) (c : Nat) (w : World) (hx : RB w w.heap.size A y) (hl : n ≤ 140737488351232) :
    Calls Try.prog 30 #[.slice A n c] w fun e w' => ∃ v, e = .returned v ∧ ∃ A' c', v = .slice A' n c' ∧ w'.ownsRow w.heap.size 5 1 (.slice A' n c') n (y.map bv) ∧ Below w.heap.size w w' :=
  (clone y n hn A c w hx hl).mono fun _ _ ⟨A', c', h1, h2, h3⟩ => ⟨_, h1, A', c', rfl, h2, h3⟩
end Go.Proofs.Ytlacidnnankjlaa

/-
  reasm.parts, walked.
-/
namespace Go.Proofs.Ytlacidnnankjlaa
open Go.RowKit

def muParts (a : Act) : Nat := match a.tmps.getD 7 undef with
  | .int _ i => (2048 - i).toNat
  | _ => 0
/-- what holds of the world in reasm.parts. -/
def PF (W : World) (nq : Nat) (l : List (Nat × List UInt8)) (cs : List Value) (v : Value) (w : World) : Prop :=
  Below W.heap.size W w ∧ w.ownsRow W.heap.size 81 2 v l.length cs ∧ PP w W.heap.size nq l cs
theorem PF.next {W w w' : World} {nq : Nat} {l : List (Nat × List UInt8)} {cs : List Value} {v : Value} (h : PF W nq l cs v w) (hb : Below w.heap.size w w') : PF W nq l cs v w' :=
  ⟨h.1.trans (hb.mono h.1.size), own_below h.2.1 hb, h.2.2.beneath hb⟩
/-- at the label. -/
structure PartsJ (W : World) (nq gH gA : Nat) (m : List (Option UInt8)) (a : Act) (w : World) (i : Nat) (l : List (Nat × List UInt8)) (cs : List Value) (v : Value) : Prop where
  at_ : Has a 52 [(0, .int .i64 (nq : Int)), (1, .slice (some ⟨gH, 0, none⟩) 2048 2048), (2, .slice (some ⟨gA, 0, none⟩) 2048 2048), (6, v), (7, .int .i64 (i : Int))]
  hi : i ≤ 2048
  len : l.length ≤ i
  fed : ∀ {l2 : List (Nat × List UInt8)}, Runs m i l2 → Runs m 0 (l ++ l2)
  pf : PF W nq l cs v w
set_option maxRecDepth 100000 in
set_option maxHeartbeats 1600000 in
theorem reasmParts (nq gH gA : Nat) (m : List (Option UInt8)) (hm : m.length = 2048) (w : World) (hq : nq ≤ 4294967295) (hgH : gH < w.heap.size) (hgA : gA < w.heap.size) (hH : Cells w gH (hasC m)) (hA : Cells w gA (allC m)) :
    Calls Try.prog 36 #[.int .i64 (nq : Int), .slice (some ⟨gH, 0, none⟩) 2048 2048, .slice (some ⟨gA, 0, none⟩) 2048 2048] w fun e w' => ∃ v, e = .returned v ∧ ∃ l cs, Runs m 0 l ∧ l.length ≤ 2048 ∧ PF w nq l cs v w' := by
  go_enter Try.func36, Try.ntmps36
  refine Has.start 52 [(0, .int .i64 (nq : Int)), (1, .slice (some ⟨gH, 0, none⟩) 2048 2048), (2, .slice (some ⟨gA, 0, none⟩) 2048 2048)] rfl rfl ⟨rfl, rfl, rfl, trivial⟩ ?_
  intro a0 H0
  have hH1 : ∀ {l cs v w'}, PF w nq l cs v w' → Cells w' gH (hasC m) := fun h => hH.below h.1 hgH
  have hA1 : ∀ {l cs v w'}, PF w nq l cs v w' → Cells w' gA (allC m) := fun h => hA.below h.1 hgA
  refine H0.rg 1 fun a H => nt ?_
  refine wp_scope_one (k := 0) rfl (fun a w' => ∃ i l cs v, PartsJ w nq gH gA m a w' i l cs v) (fun a _ => muParts a) ?_ ?_
  · intro hpass
    refine H.rg 2 fun a H => nt ?_
    refine wp_seq (label_wp (then_normal ?_))
    exact hpass _ _ ⟨0, [], [], nilV, H.keep ⟨rfl, rfl, rfl, rfl, rfl, trivial⟩, by decide, Nat.le_refl _, fun h => h, Below.refl _ _, World.ownsRow_nil _ _ _ _, rfl, fun k p h => by simp at h⟩
  clear H0 H
  rintro a w1 ⟨i0, l, cs, v, H, hi0, hlen, hfed, hF⟩
  have hmu : muParts a = 2048 - i0 := by unfold muParts; rw [show a.tmps.getD 7 undef = .int .i64 (i0 : Int) from H.at_ 7 _ rfl]; show (2048 - (i0 : Int)).toNat = _; omega
  rw [hmu]
  refine wp_seq_join (fun a w' => PF w nq l cs v w' ∧ ∃ i : Nat, Has a 52 [(0, .int .i64 (nq : Int)), (1, .slice (some ⟨gH, 0, none⟩) 2048 2048), (2, .slice (some ⟨gA, 0, none⟩) 2048 2048), (6, v), (7, .int .i64 (i : Int))] ∧ i0 ≤ i ∧ i ≤ 2048 ∧ (∀ j : Nat, i0 ≤ j → j < i → m[j]? = some none) ∧ (i = 2048 ∨ ∃ x, m[i]? = some (some x))) ?_ ?_
  · refine wp_block ?_
    refine wp_loop_up (2048 - i0) (fun k a w' => PF w nq l cs v w' ∧ Has a 52 [(0, .int .i64 (nq : Int)), (1, .slice (some ⟨gH, 0, none⟩) 2048 2048), (2, .slice (some ⟨gA, 0, none⟩) 2048 2048), (6, v), (7, .int .i64 ((i0 + k : Nat) : Int))] ∧ i0 + k ≤ 2048 ∧ (∀ j : Nat, i0 ≤ j → j < i0 + k → m[j]? = some none)) ⟨hF, H, hi0, fun j h1 h2 => absurd h2 (by omega)⟩ ?_
    clear H hF
    rintro k a w2 hk ⟨hF, H, hle, hno⟩
    obtain ⟨i, hik⟩ : ∃ i, i0 + k = i := ⟨_, rfl⟩
    rw [hik] at H hle hno
    by_cases hlt : i < 2048
    rotate_left
    · refine H.tb (PF w nq l cs v) (fun _ _ h hb => h.next hb) hF [ec 0 9 (.int .i64 (i : Int)), ec 1 10 (.slice (some ⟨gH, 0, none⟩) 2048 2048), ec 2 11 (.int .i64 ((2048 : Nat) : Int)), ec 3 12 (.bool false), ec 4 13 (.bool false), ec 5 14 undef, ec 6 15 undef, ec 7 16 undef, ec 8 17 undef, ec 9 18 undef, ec 10 19 (.bool false)] rfl ⟨jm, jm, jn Try.underlying76, jb fun _ => lss_i (i : Int) ((2048 : Nat) : Int) false (by rw [decide_eq_false_iff_not]; omega) _ _ _, jm, jo, jo, jo, jo, jo, jp, trivial⟩ ?_
      intro a w3 H hF
      refine then_normal (H.condF rfl ?_)
      refine wp_exit ?_
      repeat (with_reducible refine then_exit ?_)
      refine block_leave (then_normal ?_)
      exact ⟨hF, i, H.keep ⟨rfl, rfl, rfl, rfl, rfl, trivial⟩, by omega, hle, hno, .inl (by omega)⟩
    obtain ⟨od, hod⟩ : ∃ od, m[i]? = some od := ⟨_, List.getElem?_eq_getElem (by omega)⟩
    obtain ⟨z, hz⟩ : ∃ z, od.isSome = z := ⟨_, rfl⟩
    have hcell := hasC_at hod
    rw [hz] at hcell
    refine H.tb (PF w nq l cs v) (fun _ _ h hb => h.next hb) hF [ec 0 9 (.int .i64 (i : Int)), ec 1 10 (.slice (some ⟨gH, 0, none⟩) 2048 2048), ec 2 11 (.int .i64 ((2048 : Nat) : Int)), ec 3 12 (.bool true), ec 4 13 (.bool true), ec 5 14 (.slice (some ⟨gH, 0, none⟩) 2048 2048), ec 6 15 (.int .i64 (i : Int)), ec 7 16 (.pointer (some ⟨gH, i, none⟩)), ec 8 17 (.bool z), ec 9 18 (.bool (!z)), ec 10 19 (.bool (!z))] rfl ⟨jm, jm, jn Try.underlying76, jb fun _ => lss_i (i : Int) ((2048 : Nat) : Int) true (by rw [decide_eq_true_iff]; omega) _ _ _, jm, jm, jm, jI rfl rfl rfl rfl rfl rfl (index_bs gH 2048 2048 i hlt), jl fun _ h => load1_b _ _ _ _ ((hH1 h).get i _ hcell), ju (hq := run_not z), jp, trivial⟩ ?_
    intro a w3 H hF
    cases od with
    | some x =>
      subst hz
      refine then_normal (H.condF rfl ?_)
      refine wp_exit ?_
      repeat (with_reducible refine then_exit ?_)
      refine block_leave (then_normal ?_)
      exact ⟨hF, i, H.keep ⟨rfl, rfl, rfl, rfl, rfl, trivial⟩, by omega, hle, hno, .inr ⟨x, hod⟩⟩
    | none =>
      subst hz
      refine then_normal (H.condT rfl (skip_wp (then_normal ?_)))
      replace H := H.keep (l' := [(0, .int .i64 (nq : Int)), (1, .slice (some ⟨gH, 0, none⟩) 2048 2048), (2, .slice (some ⟨gA, 0, none⟩) 2048 2048), (6, v), (7, .int .i64 (i : Int))]) ⟨rfl, rfl, rfl, rfl, rfl, trivial⟩
      refine wp_block ?_
      refine H.rg 1 fun a H => ?_
      refine H.bb 1 rfl rfl rfl rfl rfl rfl (succ_i i (by omega) _ _ _) rfl fun a H => wpList_nil ?_
      refine block_normal (then_normal ?_)
      refine ⟨by omega, hF, (by rw [← Nat.add_assoc, hik]; exact H.keep ⟨rfl, rfl, rfl, rfl, rfl, trivial⟩), by omega, fun j h1 h2 => ?_⟩
      rcases Nat.lt_or_ge j i with h | h
      · exact hno j h1 h
      · rw [show j = i by omega]; exact hod
  clear H hF
  rintro a w2 ⟨hF, i, H, hi1, hi2, hno, hor⟩
  refine H.rg 2 fun a H => ?_
  refine H.len gz rfl rfl rfl rfl Try.underlying76 fun a H => ?_
  by_cases hend : i = 2048
  · refine H.bb 0 rfl rfl rfl rfl rfl rfl (eql_iB (i : Int) ((2048 : Nat) : Int) true (by rw [beq_iff_eq]; omega) _ _ _) rfl fun a H => nt (H.condT rfl ?_)
    refine H.rg 2 fun a H => nt (wp_ret ?_)
    repeat (first | (with_reducible refine jump_ret ?_) | (with_reducible refine then_ret ?_))
    refine bodyPost_ret (results_tmp rfl _ _ _) H.df ⟨_, congrArg Ending.returned (H.at_ 6 _ rfl), l, cs, ?_, by omega, hF⟩
    rw [← List.append_nil l]
    exact hfed (.done fun j h1 h2 => hno j h1 (by omega))
  obtain ⟨x0, hx0⟩ : ∃ x, m[i]? = some (some x) := hor.resolve_left hend
  refine H.bb 0 rfl rfl rfl rfl rfl rfl (eql_iB (i : Int) ((2048 : Nat) : Int) false (by rw [beq_eq_false_iff_ne]; omega) _ _ _) rfl fun a H => nt (H.condF rfl (skip_wp (then_normal ?_)))
  replace H := H.keep (l' := [(0, .int .i64 (nq : Int)), (1, .slice (some ⟨gH, 0, none⟩) 2048 2048), (2, .slice (some ⟨gA, 0, none⟩) 2048 2048), (6, v), (7, .int .i64 (i : Int))]) ⟨rfl, rfl, rfl, rfl, rfl, trivial⟩
  refine H.rg 2 fun a H => nt ?_
  replace H := H.keep (l' := [(0, .int .i64 (nq : Int)), (1, .slice (some ⟨gH, 0, none⟩) 2048 2048), (2, .slice (some ⟨gA, 0, none⟩) 2048 2048), (6, v), (7, .int .i64 ((i + 0 : Nat) : Int)), (8, .int .i64 (i : Int))]) ⟨rfl, rfl, rfl, rfl, rfl, rfl, trivial⟩
  refine wp_seq_join (fun a w' => PF w nq l cs v w' ∧ ∃ b : Nat, Has a 52 [(0, .int .i64 (nq : Int)), (1, .slice (some ⟨gH, 0, none⟩) 2048 2048), (2, .slice (some ⟨gA, 0, none⟩) 2048 2048), (6, v), (7, .int .i64 (b : Int)), (8, .int .i64 (i : Int))] ∧ i < b ∧ b ≤ 2048 ∧ (∀ j : Nat, i ≤ j → j < b → ∃ x, m[j]? = some (some x)) ∧ (b = 2048 ∨ m[b]? = some none)) ?_ ?_
  · refine wp_block ?_
    refine wp_loop_up (2048 - i) (fun k a w' => PF w nq l cs v w' ∧ Has a 52 [(0, .int .i64 (nq : Int)), (1, .slice (some ⟨gH, 0, none⟩) 2048 2048), (2, .slice (some ⟨gA, 0, none⟩) 2048 2048), (6, v), (7, .int .i64 ((i + k : Nat) : Int)), (8, .int .i64 (i : Int))] ∧ i + k ≤ 2048 ∧ (∀ j : Nat, i ≤ j → j < i + k → ∃ x, m[j]? = some (some x))) ⟨hF, H, hi2, fun j h1 h2 => absurd h2 (by omega)⟩ ?_
    clear H hF
    rintro k a w2 hk ⟨hF, H, hle, hyes⟩
    obtain ⟨b, hik⟩ : ∃ b, i + k = b := ⟨_, rfl⟩
    rw [hik] at H hle hyes
    by_cases hlt : b < 2048
    rotate_left
    · refine H.tb (PF w nq l cs v) (fun _ _ h hb => h.next hb) hF [ec 0 28 (.int .i64 (b : Int)), ec 1 29 (.slice (some ⟨gH, 0, none⟩) 2048 2048), ec 2 30 (.int .i64 ((2048 : Nat) : Int)), ec 3 31 (.bool false), ec 4 32 (.bool false), ec 5 33 undef, ec 6 34 undef, ec 7 35 undef, ec 8 36 undef, ec 9 37 (.bool false)] rfl ⟨jm, jm, jn Try.underlying76, jb fun _ => lss_i (b : Int) ((2048 : Nat) : Int) false (by rw [decide_eq_false_iff_not]; omega) _ _ _, jm, jo, jo, jo, jo, jp, trivial⟩ ?_
      intro a w3 H hF
      refine then_normal (H.condF rfl ?_)
      refine wp_exit ?_
      repeat (with_reducible refine then_exit ?_)
      refine block_leave (then_normal ?_)
      exact ⟨hF, b, H.keep ⟨rfl, rfl, rfl, rfl, rfl, rfl, trivial⟩, by omega, hle, hyes, .inl (by omega)⟩
    obtain ⟨od, hod⟩ : ∃ od, m[b]? = some od := ⟨_, List.getElem?_eq_getElem (by omega)⟩
    obtain ⟨z, hz⟩ : ∃ z, od.isSome = z := ⟨_, rfl⟩
    have hcell := hasC_at hod
    rw [hz] at hcell
    refine H.tb (PF w nq l cs v) (fun _ _ h hb => h.next hb) hF [ec 0 28 (.int .i64 (b : Int)), ec 1 29 (.slice (some ⟨gH, 0, none⟩) 2048 2048), ec 2 30 (.int .i64 ((2048 : Nat) : Int)), ec 3 31 (.bool true), ec 4 32 (.bool true), ec 5 33 (.slice (some ⟨gH, 0, none⟩) 2048 2048), ec 6 34 (.int .i64 (b : Int)), ec 7 35 (.pointer (some ⟨gH, b, none⟩)), ec 8 36 (.bool z), ec 9 37 (.bool z)] rfl ⟨jm, jm, jn Try.underlying76, jb fun _ => lss_i (b : Int) ((2048 : Nat) : Int) true (by rw [decide_eq_true_iff]; omega) _ _ _, jm, jm, jm, jI rfl rfl rfl rfl rfl rfl (index_bs gH 2048 2048 b hlt), jl fun _ h => load1_b _ _ _ _ ((hH1 h).get b _ hcell), jp, trivial⟩ ?_
    intro a w3 H hF
    cases od with
    | none =>
      subst hz
      refine then_normal (H.condF rfl ?_)
      refine wp_exit ?_
      repeat (with_reducible refine then_exit ?_)
      refine block_leave (then_normal ?_)
      refine ⟨hF, b, H.keep ⟨rfl, rfl, rfl, rfl, rfl, rfl, trivial⟩, ?_, hle, hyes, .inr hod⟩
      rcases Nat.lt_or_ge i b with h | h
      · exact h
      · rw [show i = b by omega, hod] at hx0; cases hx0
    | some x =>
      subst hz
      refine then_normal (H.condT rfl (skip_wp (then_normal ?_)))
      replace H := H.keep (l' := [(0, .int .i64 (nq : Int)), (1, .slice (some ⟨gH, 0, none⟩) 2048 2048), (2, .slice (some ⟨gA, 0, none⟩) 2048 2048), (6, v), (7, .int .i64 (b : Int)), (8, .int .i64 (i : Int))]) ⟨rfl, rfl, rfl, rfl, rfl, rfl, trivial⟩
      refine wp_block ?_
      refine H.rg 1 fun a H => ?_
      refine H.bb 1 rfl rfl rfl rfl rfl rfl (succ_i b (by omega) _ _ _) rfl fun a H => wpList_nil ?_
      refine block_normal (then_normal ?_)
      refine ⟨by omega, hF, (by rw [← Nat.add_assoc, hik]; exact H.keep ⟨rfl, rfl, rfl, rfl, rfl, rfl, trivial⟩), by omega, fun j h1 h2 => ?_⟩
      rcases Nat.lt_or_ge j b with h | h
      · exact hyes j h1 h
      · rw [show j = b by omega]; exact ⟨x, hod⟩
  clear H hF
  rintro a w2 ⟨hF, b, H, hib, hb2, hyes, hbor⟩
  have hwy : (winY m).length = 2048 := by rw [winY_len, hm]
  obtain ⟨y, hy⟩ : ∃ y, ((winY m).drop i).take (b - i) = y := ⟨_, rfl⟩
  have hyl : y.length = b - i := by rw [← hy, List.length_take, List.length_drop]; omega
  have hget : ∀ j, i ≤ j → j < b → ∃ x, m[j]? = some (some x) ∧ y[j - i]? = some x := by
    intro j h1 h2
    obtain ⟨x, hx⟩ := hyes j h1 h2
    refine ⟨x, hx, ?_⟩
    rw [← hy, List.getElem?_take, if_pos (by omega), List.getElem?_drop, show i + (j - i) = j by omega]
    unfold winY
    rw [List.getElem?_map, hx]
    rfl
  have hfed2 : ∀ {l2 : List (Nat × List UInt8)}, Runs m b l2 → Runs m 0 ((l ++ [(i, y)]) ++ l2) := by
    intro l2 h
    rw [List.append_assoc]
    exact hfed (.run hi1 hno hib (by omega) hget hyl (by rw [hm]; exact hbor) h)
  have hsq := spanAdd nq i (by omega) (by omega)
  refine H.sg (PF w nq l cs v) (hF.next (Below.drew (Below.refl _ _))) [0, 1, 2, 6, 7, 8] [ec 0 40 v, ec 1 41 (.int .i64 (nq : Int)), ec 2 42 (.int .i64 (i : Int)), ec 3 43 (.int .i64 (spAdd nq i : Nat)), ec 4 44 (.slice (some ⟨gA, 0, none⟩) 2048 2048), ec 5 45 (.int .i64 (i : Int)), ec 6 46 (.int .i64 (b : Int)), ec 7 47 (.slice (if 2048 = i then some ⟨gA, 0, none⟩ else (some ⟨gA, 0, none⟩ : Option Addr).map (·.add i)) (b - i) (2048 - i))] rfl ?_
  refine St.call 8 ⟨jm, jm, jm, jq fun w' _ => hsq w', jm, jm, jm, js2 fun _ => slice_lh (some ⟨gA, 0, none⟩) 2048 2048 i b (by omega) (by omega) (by omega) _, trivial⟩ (fun wy h => cloneR y (b - i) hyl _ (2048 - i) wy (hy ▸ ((rb_cells (allC_eq m ▸ hA1 h) (Nat.lt_of_lt_of_le hgA h.1.size)).cut (k := i) (cap := 2048) (by omega) (by omega)).take (b - i)) (by omega)) ?_
  rintro wy _ wz h ⟨A', c', rfl, hOz, hbz⟩
  refine nx (fun w' => PF w nq l cs v w' ∧ RowIs w.heap.size y (.slice A' (b - i) c') w') [ec 9 49 (.agg #[.int .i64 (spAdd nq i : Nat), .slice A' (b - i) c'])] [] ⟨h.next hbz, RowIs.of hyl (own_base hOz h.1.size)⟩ ?_
  refine St.val 10 ⟨ja fun _ => by kernel_rfl, jm, trivial⟩ ?_
  intro a wx H _ h
  refine ⟨.slice (some ⟨wx.heap.size, 0, none⟩) 1 1, wx.alloc (.cells #[.int .i64 (spAdd nq i : Nat), .slice A' (b - i) c'] 81), run_any H (by intro cs b h; cases h) (by kernel_rfl) (by kernel_rfl), ?_⟩
  generalize hgl : wx.heap.size = gl
  refine nx (fun w' => (PF w nq l cs v w' ∧ RowIs w.heap.size y (.slice A' (b - i) c') w') ∧ Reads w' w'.heap.size 2 (some ⟨gl, 0, none⟩) 1 [.int .i64 (spAdd nq i : Nat), .slice A' (b - i) c']) [] [] ⟨⟨h.1.next (balloc _ _), h.2.beneath (balloc _ _)⟩, by subst hgl; exact Reads.lit wx 81 _ (0, 0) 2 1 rfl⟩ ?_
  refine St.app 11 info_part ⟨jm, trivial⟩ (fun _ h => ⟨h.1.1.2.1, h.2, h.1.1.1.size⟩) (fun u hu => List.all_eq_true.1 (show ([.int .i64 (spAdd nq i : Nat), .slice A' (b - i) c'] : List Value).all (·.oneCell') = true from rfl) u hu) ⟨by unfold maxLen; omega, by omega⟩ ?_
  intro wx A2 c2 w' h hO hg
  refine nx (PF w nq (l ++ [(i, y)]) (cs ++ [.int .i64 (spAdd nq i : Nat), .slice A' (b - i) c']) (.slice A2 (l.length + 1) c2)) [] [] ⟨h.1.1.1.grown hg h.1.1.1.size fun k hk => (h.1.1.2.1.lt k hk).1, by rw [List.length_append]; exact hO, (h.1.1.2.2.apart h.1.1.2.1 hg rfl).snoc (h.1.2.apart h.1.1.2.1 hg rfl)⟩ ?_
  refine St.less [(0, .int .i64 (nq : Int)), (1, .slice (some ⟨gH, 0, none⟩) 2048 2048), (2, .slice (some ⟨gA, 0, none⟩) 2048 2048), (7, .int .i64 (b : Int)), (8, .int .i64 (i : Int))] (fun _ h => ⟨h.1, h.2.1, h.2.2.1, h.2.2.2.2.1, h.2.2.2.2.2.1, trivial⟩) ?_
  refine St.val 12 trivial fun a w' H _ hF => ⟨_, w', run_move (.inr rfl) (H.ev rfl), nx (PF w nq (l ++ [(i, y)]) (cs ++ [.int .i64 (spAdd nq i : Nat), .slice A' (b - i) c']) (.slice A2 (l.length + 1) c2)) [] [] hF (St.fin trivial ?_)⟩
  intro a w' H _ hF
  refine then_normal (wp_goto ?_)
  repeat (with_reducible refine then_goto ?_)
  refine jump_goto ⟨⟨b, l ++ [(i, y)], _, _, H.keep ⟨rfl, rfl, rfl, rfl, rfl, trivial⟩, hb2, by rw [List.length_append, List.length_singleton]; omega, hfed2, hF⟩, ?_⟩
  unfold muParts
  rw [show a.tmps.getD 7 undef = .int .i64 (b : Int) from H.at_ 7 _ rfl]
  show (2048 - (b : Int)).toNat < 2048 - i0
  omega
end Go.Proofs.Ytlacidnnankjlaa

/-
  reasm.Put.
-/
namespace Go.Proofs.Ytlacidnnankjlaa
open Go.RowKit

def putSeq (nq : Nat) (l : List (Nat × List UInt8)) : List (Nat × List UInt8) := l.map fun p => (spAdd nq p.1, p.2)
def putRest (nq : Nat) : List (Nat × List UInt8) → List (Nat × List UInt8)
  | [] => []
  | (a, x) :: r => bif spAdd nq a == nq then r else (a, x) :: r
def putTold (nq : Nat) : List (Nat × List UInt8) → List UInt8
  | [] => []
  | (a, x) :: _ => bif spAdd nq a == nq then x else []
def putNext (nq : Nat) : List (Nat × List UInt8) → Nat
  | [] => nq
  | (a, x) :: _ => bif spAdd nq a == nq then spAdd nq x.length else nq
theorem putRest_c (nq p : Nat) (x : List UInt8) (r : List (Nat × List UInt8)) : putRest nq ((p, x) :: r) = bif spAdd nq p == nq then r else (p, x) :: r := rfl
theorem putTold_c (nq p : Nat) (x : List UInt8) (r : List (Nat × List UInt8)) : putTold nq ((p, x) :: r) = bif spAdd nq p == nq then x else [] := rfl
theorem putNext_c (nq p : Nat) (x : List UInt8) (r : List (Nat × List UInt8)) : putNext nq ((p, x) :: r) = bif spAdd nq p == nq then spAdd nq x.length else nq := rfl
/-- what 'Put' leaves: the buffer, what is told. -/
def PutG (nq : Nat) (ps : List (Nat × List UInt8)) (sq : Nat) (xs : List UInt8) (nq' : Nat) (ps' : List (Nat × List UInt8)) (told : List UInt8) : Prop :=
  (wiTake (spDiff sq nq) xs = [] ∧ nq' = nq ∧ ps' = ps ∧ told = []) ∨
  (wiTake (spDiff sq nq) xs ≠ [] ∧ ∃ l, Runs (layG (layP nq win0 ps) (wiAt (spDiff sq nq)) (wiTake (spDiff sq nq) xs)) 0 l ∧
    ((8 < (putRest nq l).length ∧ nq' = nq ∧ ps' = ps ∧ told = []) ∨ ((putRest nq l).length ≤ 8 ∧ nq' = putNext nq l ∧ ps' = putSeq nq (putRest nq l) ∧ told = putTold nq l)))
theorem lay1c_keep {m : List (Option UInt8)} {i j : Nat} {x y : UInt8} (h : m[j]? = some (some y)) : (lay1c m i x)[j]? = some (some y) := by
  unfold lay1c
  split
  · next hn =>
    rw [List.getElem?_set]
    by_cases e : i = j
    · subst e
      rw [hn] at h
      cases h
    · rw [if_neg e]; exact h
  · exact h
theorem layG_keep : ∀ {xs : List UInt8} {m : List (Option UInt8)} {i j : Nat} {y : UInt8}, m[j]? = some (some y) → (layG m i xs)[j]? = some (some y)
  | [], _, _, _, _, h => h
  | _ :: _, _, _, _, _, h => by
    rw [layG]
    exact layG_keep (lay1c_keep h)
theorem lay1c_at {m : List (Option UInt8)} {i : Nat} (x : UInt8) (h : i < m.length) : ∃ y, (lay1c m i x)[i]? = some (some y) := by
  unfold lay1c
  split
  · exact ⟨x, by rw [List.getElem?_set, if_pos rfl, if_pos h]⟩
  · next hn =>
    rw [List.getElem?_eq_getElem h] at hn ⊢
    cases hx : m[i] with
    | none => rw [hx] at hn; exact absurd rfl hn
    | some y => exact ⟨y, rfl⟩
theorem runs_some {m : List (Option UInt8)} {j : Nat} {y : UInt8} (h : m[j]? = some (some y)) (hl : j < m.length) : ¬ Runs m 0 [] := by
  intro hr
  cases hr with
  | done h' => rw [h' j (Nat.zero_le _) hl] at h; cases h
/-- bytes are read in blocks of which S holds. -/
def RBS (w : World) (S : Nat → Prop) (A : Option Addr) (xs : List UInt8) : Prop := 0 < xs.length → ∃ ad : Addr, A = some ad ∧ S ad.block ∧ ad.block < w.heap.size ∧ ∀ j u, (xs.map bv)[j]? = some u → w.cell? (ad.add j) = some u
theorem RBS.rb {w : World} {S : Nat → Prop} {A : Option Addr} {xs : List UInt8} (h : RBS w S A xs) : RB w w.heap.size A xs := by
  refine ⟨by rw [List.length_map, Nat.mul_one], fun hn => ?_⟩
  obtain ⟨ad, h1, _, h3, h4⟩ := h hn
  exact ⟨ad, h1, h3, h4⟩
theorem RBS.mono {w : World} {S S' : Nat → Prop} {A : Option Addr} {xs : List UInt8} (h : RBS w S A xs) (hS : ∀ k, k < w.heap.size → S k → S' k) : RBS w S' A xs := by
  intro hn
  obtain ⟨ad, h1, h2, h3, h4⟩ := h hn
  exact ⟨ad, h1, hS _ h3 h2, h3, h4⟩
theorem RBS.grown {w w' : World} {S : Nat → Prop} {A : Option Addr} {xs : List UInt8} {r : Option Nat} (h : RBS w S A xs) (hg : w.grownBy w' r) (hr : ∀ k, r = some k → ¬ S k) : RBS w' S A xs := by
  intro hn
  obtain ⟨ad, h1, h2, h3, h4⟩ := h hn
  refine ⟨ad, h1, h2, Nat.lt_of_lt_of_le h3 hg.size, fun j u hu => ?_⟩
  have hb : (ad.add j).block = ad.block := block_of_add ..
  exact hg.cell (h4 j u hu) (by rw [hb]; exact fun e => hr _ e.symm h2)
/-- blocks from b on that are no buffer. -/
def SP (b : Nat) (w : World) (k : Nat) : Prop := b ≤ k ∧ ¬ TypB w k 49
theorem RBS.of_row {w : World} {b n c : Nat} {A : Option Addr} {xs : List UInt8} (h : w.ownsRow b 5 1 (.slice A n c) n (xs.map bv)) (hn : xs.length = n) : RBS w (SP b w) A xs := by
  intro hp
  rw [hn] at hp
  obtain ⟨g, cap, hv, _, hlt⟩ := h.form hp
  injection hv with hA _ _
  subst hA
  have hb := (h.lt g rfl).1
  exact ⟨_, rfl, ⟨hb, fun ht => ht.far h rfl rfl⟩, hlt, h.cells (g := g) rfl⟩
/-- the parts of a buffer, in blocks of which S holds. -/
def PartsS (w : World) (S : Nat → Prop) (AP : Option Addr) (ps : List (Nat × List UInt8)) : Prop :=
  ∀ k p, ps[k]? = some p → ∃ g o A c, AP = some ⟨g, o, none⟩ ∧ S g ∧ g < w.heap.size ∧ w.rangeAt g (o + k * 2) [.int .i64 (p.1 : Int), .slice A p.2.length c] ∧ RBS w S A p.2
theorem PartsS.at_ {w : World} {S : Nat → Prop} {AP : Option Addr} {ps : List (Nat × List UInt8)} (h : PartsS w S AP ps) : PartsAt w w.heap.size AP ps := by
  intro k p hk
  obtain ⟨g, o, A, c, h1, _, h3, h4, h5⟩ := h k p hk
  exact ⟨g, o, A, c, h1, h3, h4, h5.rb⟩
theorem PartsS.mono {w : World} {S S' : Nat → Prop} {AP : Option Addr} {ps : List (Nat × List UInt8)} (h : PartsS w S AP ps) (hS : ∀ k, k < w.heap.size → S k → S' k) : PartsS w S' AP ps := by
  intro k p hk
  obtain ⟨g, o, A, c, h1, h2, h3, h4, h5⟩ := h k p hk
  exact ⟨g, o, A, c, h1, hS _ h3 h2, h3, h4, h5.mono hS⟩
theorem PartsS.grown {w w' : World} {S : Nat → Prop} {AP : Option Addr} {ps : List (Nat × List UInt8)} {r : Option Nat} (h : PartsS w S AP ps) (hg : w.grownBy w' r) (hr : ∀ k, r = some k → ¬ S k) : PartsS w' S AP ps := by
  intro k p hk
  obtain ⟨g, o, A, c, h1, h2, h3, h4, h5⟩ := h k p hk
  refine ⟨g, o, A, c, h1, h2, Nat.lt_of_lt_of_le h3 hg.size, fun j u hu => ?_, h5.grown hg hr⟩
  exact hg.cell (h4 j u hu) (fun e => hr _ e.symm h2)
theorem PartsS.of_row {w : World} {b nq n c : Nat} {A : Option Addr} {l : List (Nat × List UInt8)} {cs : List Value} (hO : w.ownsRow b 81 2 (.slice A n c) n cs) (hP : PP w b nq l cs) : PartsS w (SP b w) A (putSeq nq l) := by
  have hr := Reads.of_own hO
  intro k p hk
  unfold putSeq at hk
  rw [List.getElem?_map] at hk
  cases hl : l[k]? with
  | none => rw [hl] at hk; cases hk
  | some q =>
    rw [hl] at hk
    injection hk with hk
    subst hk
    obtain ⟨v, h1, h2, h3⟩ := hP.2 k q hl
    have hkl : k < l.length := (List.getElem?_eq_some_iff.1 hl).1
    have hnn : 0 < n := by
      have := hr.1
      rw [hP.1] at this
      omega
    obtain ⟨g, cap, hv, _, hlt⟩ := hO.form hnn
    injection hv with hA _ _
    subst hA
    obtain ⟨ad, e, _, hcell⟩ := hr.2 hnn
    injection e with e
    subst e
    obtain ⟨A', c', rfl, h4⟩ := h3
    refine ⟨g, 0, A', c', rfl, ⟨(hO.lt g rfl).1, fun ht => ht.far hO rfl rfl⟩, hlt, ?_, RBS.of_row h4 rfl⟩
    intro j u hu
    have hj : j < 2 := (List.getElem?_eq_some_iff.1 hu).1
    rcases Nat.lt_or_ge j 1 with h0 | h0
    · have e0 : j = 0 := by omega
      subst e0
      injection hu with hu
      subst hu
      have := hcell _ _ h1
      rw [Addr.add_mid] at this
      exact this
    · have e0 : j = 1 := by omega
      subst e0
      injection hu with hu
      subst hu
      have := hcell _ _ h2
      rw [Addr.add_mid] at this
      rw [Nat.add_assoc]
      exact this
theorem PartsS.tail {w : World} {S : Nat → Prop} {g o : Nat} {p : Nat × List UInt8} {ps : List (Nat × List UInt8)} (h : PartsS w S (some ⟨g, o, none⟩) (p :: ps)) : PartsS w S (some ⟨g, o + 2, none⟩) ps := by
  intro k q hk
  obtain ⟨g', o', A, c, h1, h2, h3, h4, h5⟩ := h (k + 1) q hk
  injection h1 with h1
  injection h1 with h6 h7
  subst h6 h7
  exact ⟨g, o + 2, A, c, rfl, h2, h3, by rw [show o + 2 + k * 2 = o + (k + 1) * 2 by omega]; exact h4, h5⟩
theorem PartsS.nil {w : World} {S : Nat → Prop} {A : Option Addr} : PartsS w S A [] := fun k p h => by simp at h
set_option maxRecDepth 100000 in
theorem slice_tl (g n c : Nat) (h1 : 1 ≤ n) (_h3 : n ≤ c) (w : World) : (Instr.sliceAt 47 (.slice (some ⟨g, 0, none⟩) n c) (some (.int .i64 1)) none none).run Try.prog w = .ok (.slice (if c = 1 then some ⟨g, 0, none⟩ else some ⟨g, 2, none⟩) (n - 1) (c - 1)) w := by
  simp [go_sem]
  omega
/-- what 'Put' answers. -/
def PutV (nq : Nat) (AP : Option Addr) (ps : List (Nat × List UInt8)) (sq : Nat) (xs : List UInt8) (W : World) (v : Value) (w : World) : Prop :=
  ∃ nq' ps' told AP' c A2 c2, v = .tuple #[.agg ([.int .i64 (nq' : Nat), .slice AP' (ps' : List (Nat × List UInt8)).length c] : List Value).toArray, .slice A2 (told : List UInt8).length c2] ∧ PutG nq ps sq xs nq' ps' told ∧ ((AP' = AP ∧ ps' = ps) ∨ PartsS w (SP W.heap.size w) AP' ps') ∧ RBS w (SP W.heap.size w) A2 told ∧ Below W.heap.size W w
set_option maxRecDepth 100000 in
set_option maxHeartbeats 3200000 in
theorem reasmPut (nq : Nat) (AP : Option Addr) (cP : Nat) (ps : List (Nat × List UInt8)) (sq : Nat) (xs : List UInt8) (A : Option Addr) (c : Nat) (w : World) (hq : nq ≤ 4294967295) (hs : sq ≤ 4294967295) (hl : ps.length ≤ 100000) (hn : xs.length ≤ 65536) (hc : xs.length ≤ c) (hP : PartsAt w w.heap.size AP ps) (hps : ∀ p ∈ ps, p.1 ≤ 4294967295 ∧ 0 ≤ spDiff p.1 nq ∧ spDiff p.1 nq + (p.2.length : Int) ≤ 2048) (hr : RB w w.heap.size A xs) :
    Calls Try.prog 27 #[.agg ([.int .i64 (nq : Int), .slice AP ps.length cP] : List Value).toArray, .int .i64 (sq : Int), .slice A xs.length c] w fun e w' => ∃ v, e = .returned v ∧ PutV nq AP ps sq xs w v w' := by
  go_enter Try.func27, Try.ntmps27
  refine Has.start 70 [(0, .agg ([.int .i64 (nq : Int), .slice AP ps.length cP] : List Value).toArray), (1, .int .i64 (sq : Int)), (2, .slice A xs.length c)] rfl rfl ⟨rfl, rfl, rfl, trivial⟩ ?_
  intro a0 H0
  have O0 := Own.start w
  have hn0 : win0.length = 2048 := List.length_replicate
  refine rl ?_
  refine H0.bx O0 0 (L := [.int .i64 (nq : Int), .slice AP ps.length cP]) fun a w1 O1 H => ?_
  generalize hg3 : w.heap.size = g3 at O1 H hP hr ⊢
  refine H.al O1 1 zero_buf fun a w2 O2 H => nt ?_
  generalize w1.heap.size = g6 at O2 H
  have bl : ∀ {L L' : List Value} {w'}, Own w g3 [(g6, L), (g3, L')] w' → Below w.heap.size w w' := fun h => hg3 ▸ h.bel
  replace H := H.keep (l' := [(1, .int .i64 (sq : Int)), (2, .slice A xs.length c), (3, .pointer (some ⟨g3, 0, none⟩)), (6, .pointer (some ⟨g6, 0, none⟩))]) ⟨rfl, rfl, rfl, rfl, trivial⟩
  refine H.rg 0 fun a H => ?_
  refine H.loadS rfl rfl rfl rfl rfl (O2.get 1 rfl) Try.underlying49 rfl size_buf rfl fun a H => ?_
  refine H.ms 2 fun a H => ?_
  refine H.cl (reasmWithin nq sq (.slice AP ps.length cP) xs A c hq hs hn hc w2 ((hr.below O2.bel).more O2.le)) ?_
  rintro a _ w3 ⟨at_, A1, c1, rfl, hc1, hat, hr1, hb3⟩ H
  obtain ⟨ys, hys⟩ : ∃ ys, wiTake (spDiff sq nq) xs = ys := ⟨_, rfl⟩
  have hfit := wi_fits (spDiff sq nq) xs
  have O3 := O2.call hb3
  refine H.ms 1 fun a H => ?_
  rw [hys] at H hc1 hr1 hat hfit
  refine H.ex (r := .int .i64 (at_ : Int)) 0 fun a H => ?_
  refine H.ex (r := .slice A1 ys.length c1) 2 fun a H => nt ?_
  replace H := H.keep (l' := [(3, .pointer (some ⟨g3, 0, none⟩)), (6, .pointer (some ⟨g6, 0, none⟩)), (8, .int .i64 (at_ : Int)), (9, .slice A1 ys.length c1)]) ⟨rfl, rfl, rfl, rfl, trivial⟩
  refine H.rg 1 fun a H => ?_
  refine H.len gz rfl rfl rfl rfl Try.underlying27 fun a H => ?_
  by_cases hy : ys = []
  · refine H.bb 0 rfl rfl rfl rfl rfl rfl (eql_iB _ _ true (by subst hy; rfl) _ _ _) rfl fun a H => nt (H.condT rfl ?_)
    refine H.rg 0 fun a H => ?_
    refine H.loadS rfl rfl rfl rfl rfl (O3.get 1 rfl) Try.underlying49 rfl size_buf rfl fun a H => ?_
    refine H.st O3 0 1 (L := [.int .i64 (nq : Int), .slice AP ps.length cP]) (fun a w4 O4 H => nt (wp_ret ?_)) size_buf
    repeat (first | (with_reducible refine block_ret ?_) | (with_reducible refine then_ret ?_))
    refine bodyPost_ret (results_two Try.results27 _ _ _ (H.at_ 6 _ rfl) (H.at_ 7 _ rfl) (O4.get 0 rfl) Try.underlying49 rfl _ size_buf rfl) H.df ⟨_, rfl, nq, ps, [], AP, cP, none, 0, rfl, .inl ⟨hys.trans hy, rfl, rfl, rfl⟩, .inl ⟨rfl, rfl⟩, fun h => absurd h (Nat.lt_irrefl 0), bl O4⟩
  have hne : wiTake (spDiff sq nq) xs ≠ [] := by rw [hys]; exact hy
  have hat' := hat hy
  have hfit' : at_ + ys.length ≤ 2048 := by rw [hat']; exact hfit hy
  have hpos : 0 < ys.length := List.length_pos_iff.2 hy
  refine H.bb 0 rfl rfl rfl rfl rfl rfl (eql_iB _ _ false (by rw [beq_eq_false_iff_ne]; omega) _ _ _) rfl fun a H => nt (H.condF rfl (skip_wp (then_normal ?_)))
  replace H := H.keep (l' := [(3, .pointer (some ⟨g3, 0, none⟩)), (6, .pointer (some ⟨g6, 0, none⟩)), (8, .int .i64 (at_ : Int)), (9, .slice A1 ys.length c1)]) ⟨rfl, rfl, rfl, rfl, trivial⟩
  refine H.rg 0 fun a H => ?_
  refine H.loadS rfl rfl rfl rfl rfl (O3.get 1 rfl) Try.underlying49 rfl size_buf rfl fun a H => ?_
  refine H.ms 2 fun a H => ?_
  refine H.cl (reasmFill nq AP cP ps at_ ys A1 c1 w3 hq hl ((hP.below O3.bel).more O3.le) hps hr1 hfit') ?_
  rintro a _ w4 ⟨gH, gA, rfl, Of⟩ H
  have O4 := O3.call Of.bel
  refine H.ms 1 fun a H => ?_
  refine H.ex (r := .slice (some ⟨gH, 0, none⟩) 2048 2048) 0 fun a H => ?_
  refine H.ex (r := .slice (some ⟨gA, 0, none⟩) 2048 2048) 2 fun a H => nt ?_
  replace H := H.keep (l' := [(3, .pointer (some ⟨g3, 0, none⟩)), (6, .pointer (some ⟨g6, 0, none⟩)), (10, .slice (some ⟨gH, 0, none⟩) 2048 2048), (11, .slice (some ⟨gA, 0, none⟩) 2048 2048)]) ⟨rfl, rfl, rfl, rfl, trivial⟩
  obtain ⟨mm, hmm⟩ : ∃ mm, layG (layP nq win0 ps) at_ ys = mm := ⟨_, rfl⟩
  rw [hmm] at Of
  have hml : mm.length = 2048 := by rw [← hmm, layG_len, layP_len, hn0]
  refine H.rg 1 fun a H => ?_
  refine H.ld 2 (O4.li 1 0) fun a H => ?_
  refine H.cl (reasmParts nq gH gA mm hml w4 hq (Of.lt 1 rfl) (Of.lt 0 rfl) (Of.get 1 rfl) (Of.get 0 rfl)) ?_
  rintro a vl w5 ⟨l, cs, hR, hll, hbl, hrow, hpk⟩ H
  have O5 := O4.call hbl
  refine H.ms 1 fun a H => nt ?_
  refine H.rg 1 fun a H => nt ?_
  refine H.rg 1 fun a H => ?_
  refine H.ld 1 (O5.li 1 0) fun a H => nt ?_
  replace H := H.keep (l' := [(3, .pointer (some ⟨g3, 0, none⟩)), (6, .pointer (some ⟨g6, 0, none⟩)), (12, vl), (13, nilV), (14, .int .i64 (nq : Int))]) ⟨rfl, rfl, rfl, rfl, rfl, trivial⟩
  obtain ⟨y0, yr, hys2⟩ : ∃ y0 yr, ys = y0 :: yr := by
    cases ys with
    | nil => exact absurd rfl hy
    | cons y0 yr => exact ⟨y0, yr, rfl⟩
  rcases l with _ | ⟨⟨p0, x0⟩, r⟩
  · exfalso
    have h0 : at_ < (layP nq win0 ps).length := by rw [layP_len, hn0]; omega
    obtain ⟨z, hz⟩ := lay1c_at y0 h0
    refine runs_some (m := mm) (j := at_) (y := z) ?_ (by omega) hR
    rw [← hmm, hys2, layG]
    exact layG_keep hz
  obtain ⟨gl, cl, hv, hcl, hgl⟩ := hrow.form (Nat.succ_pos _)
  subst hv
  have hcap : r.length + 1 ≤ cl := own_cap hrow
  obtain ⟨_, hcs0, hcs1, A0, c0, rfl, hO0⟩ := hpk.2 0 _ rfl
  have hlt6 : g6 < w4.heap.size := O4.lt 0 rfl
  have k1 : w5.cell? ⟨gl, 0, none⟩ = some (.int .i64 ((spAdd nq p0 : Nat) : Int)) := hrow.cells (g := gl) rfl 0 _ hcs0
  have k2 : w5.cell? ⟨gl, 1, none⟩ = some (.slice A0 x0.length c0) := hrow.cells (g := gl) rfl 1 _ hcs1
  have hPA : ∀ {w6 w7 : World}, Below w5.heap.size w5 w6 → w6.grownBy w7 (some g6) → PartsS w7 (SP w4.heap.size w7) (some ⟨gl, 0, none⟩) (putSeq nq ((p0, x0) :: r)) ∧ RBS w7 (SP w4.heap.size w7) A0 x0 := by
    intro w6 w7 hb hg
    have h1 := own_below hrow hb
    have h2 := own_below hO0 hb
    refine ⟨PartsS.of_row (h1.kept hg (.inr (own_ne h1 (.inl hlt6)).symm)) ⟨hpk.1, fun k p hk => ?_⟩, RBS.of_row (h2.kept hg (.inr (own_ne h2 (.inl hlt6)).symm)) rfl⟩
    obtain ⟨v, q1, q2, A', c', e, q3⟩ := hpk.2 k p hk
    have q4 := own_below q3 hb
    exact ⟨v, q1, q2, A', c', e, q4.kept hg (.inr (own_ne q4 (.inl hlt6)).symm)⟩
  obtain ⟨z, hz⟩ : ∃ z, (spAdd nq p0 == nq) = z := ⟨_, rfl⟩
  have hzi : (((spAdd nq p0 : Nat) : Int) == (nq : Int)) = z := by rw [← hz, Bool.eq_iff_iff, beq_iff_eq, beq_iff_eq]; omega
  refine wp_seq_join (fun a w' => ∃ (l2 : List (Nat × List UInt8)) (A2 : Option Addr) (n2 c2 : Nat) (At : Option Addr) (n9 ct : Nat), Has a 70 [(3, .pointer (some ⟨g3, 0, none⟩)), (6, .pointer (some ⟨g6, 0, none⟩)), (12, .slice A2 n2 c2), (13, .slice At n9 ct), (14, .int .i64 (putNext nq ((p0, x0) :: r) : Nat))] ∧ l2.length = n2 ∧ n2 ≤ c2 ∧ l2 = putSeq nq (putRest nq ((p0, x0) :: r)) ∧ Own w g3 [(g6, [.int .i64 0, nilV]), (g3, [.int .i64 (nq : Int), .slice AP ps.length cP])] w' ∧ (putTold nq ((p0, x0) :: r)).length = n9 ∧ ∀ w'', w'.grownBy w'' (some g6) → PartsS w'' (SP w4.heap.size w'') A2 l2 ∧ RBS w'' (SP w4.heap.size w'') At (putTold nq ((p0, x0) :: r))) ?_ ?_
  · refine H.dq (fun w' => Own w g3 [(g6, [.int .i64 0, nilV]), (g3, [.int .i64 (nq : Int), .slice AP ps.length cP])] w' ∧ Below w5.heap.size w5 w') (fun _ _ h hb => ⟨h.1.call hb, h.2.trans (hb.mono h.2.size)⟩) ⟨O5, Below.refl _ _⟩ [3, 6, 12, 13, 14] rfl [ec 0 40 (.slice (some ⟨gl, 0, none⟩) (r.length + 1) cl), ec 1 41 (.pointer (some ⟨gl, 0, none⟩)), ec 2 42 (.pointer (some ⟨gl, 0, none⟩)), ec 3 43 (.int .i64 ((spAdd nq p0 : Nat) : Int)), ec 4 44 (.pointer (some ⟨g3, 0, none⟩)), ec 5 45 (.int .i64 (nq : Int)), ec 6 46 (.bool z)] rfl
      ⟨jm, jI rfl rfl rfl rfl rfl rfl (index_m 47 Try.underlying47 2 (fun _ => by kernel_rfl) gl 0 (r.length + 1) cl 0 (Nat.succ_pos _)), jm, jl fun _ h => load1_i _ _ _ _ ((cellB h.2 hgl).trans k1), jm, jl fun _ h => h.1.li 1 0, jb fun _ => eql_iB _ _ z hzi _ _ _, trivial⟩ trivial ?_
    intro a w6 H _ ⟨O6, hb6⟩
    have hlen : (putSeq nq r).length = r.length := List.length_map _
    cases z with
    | false =>
      refine then_normal (H.condF rfl (skip_wp (then_normal ?_)))
      refine ⟨putSeq nq ((p0, x0) :: r), some ⟨gl, 0, none⟩, r.length + 1, cl, none, 0, 0, ?_, ?_, hcap, ?_, O6, ?_, fun w7 hg => ⟨(hPA hb6 hg).1, ?_⟩⟩
      · rw [putNext_c, hz, cond_false]
        exact H.keep ⟨rfl, rfl, rfl, rfl, rfl, trivial⟩
      · exact congrArg (· + 1) hlen
      · rw [putRest_c, hz, cond_false]
      · rw [putTold_c, hz, cond_false]
        rfl
      · rw [putTold_c, hz, cond_false]
        exact fun h => absurd h (Nat.lt_irrefl 0)
    | true =>
      refine then_normal (H.condT rfl ?_)
      replace H := H.keep (l' := [(3, .pointer (some ⟨g3, 0, none⟩)), (6, .pointer (some ⟨g6, 0, none⟩)), (12, .slice (some ⟨gl, 0, none⟩) (r.length + 1) cl)]) ⟨rfl, rfl, rfl, trivial⟩
      have hx0 : x0.length ≤ 2048 := by
        cases hR with
        | run h1 h2 h3 h4 h5 h6 h7 h => omega
      have hsq := spanAdd nq x0.length (by omega) (by omega)
      refine H.sg (fun w' => Own w g3 [(g6, [.int .i64 0, nilV]), (g3, [.int .i64 (nq : Int), .slice AP ps.length cP])] w' ∧ Below w5.heap.size w5 w') ⟨O6.drew, hb6.trans (Below.drew (Below.refl _ _) |>.mono hb6.size)⟩ [3, 6, 12] [ec 0 47 (.slice (some ⟨gl, 0, none⟩) (r.length + 1) cl), ec 1 48 (.pointer (some ⟨gl, 0, none⟩)), ec 2 49 (.pointer (some ⟨gl, 1, none⟩)), ec 3 50 (.slice A0 x0.length c0), ec 4 51 (.pointer (some ⟨g3, 0, none⟩)), ec 5 52 (.int .i64 (nq : Int)), ec 6 53 (.slice (some ⟨gl, 0, none⟩) (r.length + 1) cl), ec 7 54 (.pointer (some ⟨gl, 0, none⟩)), ec 8 55 (.pointer (some ⟨gl, 1, none⟩)), ec 9 56 (.slice A0 x0.length c0), ec 10 57 (.int .i64 (x0.length : Int)), ec 11 58 (.int .i64 ((spAdd nq x0.length : Nat) : Int)), ec 12 59 (.slice (some ⟨gl, 0, none⟩) (r.length + 1) cl), ec 13 60 (.slice (if cl = 1 then some ⟨gl, 0, none⟩ else some ⟨gl, 2, none⟩) (r.length + 1 - 1) (cl - 1)), ec 14 13 (.slice A0 x0.length c0), ec 15 14 (.int .i64 ((spAdd nq x0.length : Nat) : Int))] rfl ?_
      refine St.val 16 ⟨jm, jI rfl rfl rfl rfl rfl rfl (index_m 47 Try.underlying47 2 (fun _ => by kernel_rfl) gl 0 (r.length + 1) cl 0 (Nat.succ_pos _)), jm, jl fun _ h => load1_31 _ _ _ _ _ _ ((cellB h.2 hgl).trans k2), jm, jl fun _ h => h.1.li 1 0, jm, jI rfl rfl rfl rfl rfl rfl (index_m 47 Try.underlying47 2 (fun _ => by kernel_rfl) gl 0 (r.length + 1) cl 0 (Nat.succ_pos _)), jm, jl fun _ h => load1_31 _ _ _ _ _ _ ((cellB h.2 hgl).trans k2), jn Try.underlying27, jq fun w' _ => hsq w', jm, js1 fun _ => slice_tl gl (r.length + 1) cl (by omega) hcap _, jm, jm, trivial⟩ fun a wu H _ hF => ⟨_, wu, run_move (.inr rfl) (H.ev rfl), nxl [(3, .pointer (some ⟨g3, 0, none⟩)), (6, .pointer (some ⟨g6, 0, none⟩))] (fun _ h => ⟨h.1, h.2.1, trivial⟩) (fun w' => Own w g3 [(g6, [.int .i64 0, nilV]), (g3, [.int .i64 (nq : Int), .slice AP ps.length cP])] w' ∧ Below w5.heap.size w5 w') [] [] hF (St.fin trivial ?_)⟩
      intro a w7 H _ ⟨O7, hb7⟩
      refine then_normal ?_
      refine ⟨putSeq nq r, if cl = 1 then some ⟨gl, 0, none⟩ else some ⟨gl, 2, none⟩, r.length, cl - 1, A0, x0.length, c0, ?_, hlen, by omega, ?_, O7, ?_, fun w8 hg => ⟨?_, ?_⟩⟩
      · rw [putNext_c, hz, cond_true]
        exact H.keep ⟨rfl, rfl, rfl, rfl, rfl, trivial⟩
      · rw [putRest_c, hz, cond_true]
      · rw [putTold_c, hz, cond_true]
      · split
        · have : r = [] := List.length_eq_zero_iff.1 (by omega)
          subst this
          exact PartsS.nil
        · exact PartsS.tail (o := 0) (hPA hb7 hg).1
      · rw [putTold_c, hz, cond_true]
        exact (hPA hb7 hg).2
  have hw4 : w.heap.size ≤ w4.heap.size := (bl O4).size
  clear H O5 hPA hrow hpk hcap k1 k2 hO0
  rintro a w8 ⟨l2, A2, n2, c2, At, n9, ct, H, hl2, hc2, hl2e, O8, hnt, hK⟩
  refine H.rg 1 fun a H => ?_
  refine H.len gz rfl rfl rfl rfl Try.underlying47 fun a H => ?_
  have hlr : n2 = (putRest nq ((p0, x0) :: r)).length := by rw [← hl2, hl2e]; exact List.length_map _
  have hRR : Runs (layG (layP nq win0 ps) (wiAt (spDiff sq nq)) (wiTake (spDiff sq nq) xs)) 0 ((p0, x0) :: r) := by rw [hys, ← hat', hmm]; exact hR
  by_cases h8 : 8 < n2
  · refine H.bb 0 rfl rfl rfl rfl rfl rfl (gtr_i (n2 : Int) 8 true (by rw [decide_eq_true_iff]; omega) _ _ _) rfl fun a H => nt (H.condT rfl ?_)
    refine H.rg 0 fun a H => ?_
    refine H.loadS rfl rfl rfl rfl rfl (O8.get 1 rfl) Try.underlying49 rfl size_buf rfl fun a H => ?_
    refine H.st O8 0 1 (L := [.int .i64 (nq : Int), .slice AP ps.length cP]) (fun a w9 O9 H => nt (wp_ret ?_)) size_buf
    repeat (first | (with_reducible refine block_ret ?_) | (with_reducible refine then_ret ?_))
    refine bodyPost_ret (results_two Try.results27 _ _ _ (H.at_ 6 _ rfl) (H.at_ 7 _ rfl) (O9.get 0 rfl) Try.underlying49 rfl _ size_buf rfl) H.df ⟨_, rfl, nq, ps, [], AP, cP, none, 0, rfl, .inr ⟨hne, _, hRR, .inl ⟨hlr ▸ h8, rfl, rfl, rfl⟩⟩, .inl ⟨rfl, rfl⟩, fun h => absurd h (Nat.lt_irrefl 0), bl O9⟩
  · refine H.bb 0 rfl rfl rfl rfl rfl rfl (gtr_i (n2 : Int) 8 false (by rw [decide_eq_false_iff_not]; omega) _ _ _) rfl fun a H => nt (H.condF rfl (skip_wp (then_normal ?_)))
    refine H.rg 2 fun a H => ?_
    refine H.cq 0 (partsClip A2 n2 c2 hc2 w8) fun a H => ?_
    refine H.any (w' := w8) gz rfl rfl (.agg ([.int .i64 (putNext nq ((p0, x0) :: r) : Nat), .slice A2 n2 n2] : List Value).toArray) (by intro cs b h; cases h) (by kernel_rfl) (by kernel_rfl) fun a H => ?_
    refine H.ms 1 fun a H => ?_
    refine H.storeS rfl rfl rfl rfl rfl (O8.get 0 rfl) size_buf rfl rfl rfl fun a w9 H hg9 hs9 hC9 => ?_
    have O9 := O8.store 0 rfl hg9 hs9 hC9
    obtain ⟨hP9, ht9⟩ := hK w9 hg9
    refine H.ms 1 fun a H => nt (wp_ret ?_)
    repeat (first | (with_reducible refine block_ret ?_) | (with_reducible refine then_ret ?_))
    exact bodyPost_ret (results_two Try.results27 _ _ _ (H.at_ 6 _ rfl) (H.at_ 7 _ rfl) (O9.get 0 rfl) Try.underlying49 rfl _ size_buf rfl) H.df ⟨_, rfl, putNext nq ((p0, x0) :: r), l2, putTold nq ((p0, x0) :: r), A2, n2, At, ct, by rw [hl2, hnt], .inr ⟨hne, _, hRR, .inr ⟨by omega, rfl, hl2e, rfl⟩⟩, .inr (hP9.mono fun k _ h => ⟨Nat.le_trans hw4 h.1, h.2⟩), ht9.mono fun k _ h => ⟨Nat.le_trans hw4 h.1, h.2⟩, bl O9⟩
end Go.Proofs.Ytlacidnnankjlaa

/-
  What 'Put' leaves, in plain Lean: it is one thing; what may be may be again; bytes that come in order are told.
-/
namespace Go.Proofs.Ytlacidnnankjlaa

theorem layG_get : ∀ (xs : List UInt8) (m : List (Option UInt8)) (i j : Nat), (layG m i xs)[j]? = if i ≤ j ∧ j < i + xs.length ∧ m[j]? = some none then some (xs[j - i]?) else m[j]?
  | [], m, i, j => by
    rw [if_neg (by rintro ⟨h1, h2, _⟩; simp at h2; omega)]
    rfl
  | x :: r, m, i, j => by
    rw [layG, layG_get r (lay1c m i x) (i + 1) j]
    have hl : (lay1c m i x)[j]? = if i = j ∧ m[j]? = some none then some (some x) else m[j]? := by
      unfold lay1c
      by_cases hn : m[i]? = some none
      · rw [if_pos hn, List.getElem?_set]
        by_cases e : i = j
        · subst e
          rw [if_pos rfl, if_pos (List.getElem?_eq_some_iff.1 hn).1, if_pos ⟨rfl, hn⟩]
        · rw [if_neg e, if_neg (fun h => e h.1)]
      · rw [if_neg hn, if_neg]
        rintro ⟨rfl, h⟩
        exact hn h
    rw [hl]
    rcases Nat.lt_trichotomy j i with h | h | h
    · rw [if_neg (by omega), if_neg (by omega), if_neg (by omega)]
    · subst h
      by_cases hn : m[j]? = some none
      · rw [if_neg (by omega), if_pos ⟨rfl, hn⟩, if_pos ⟨Nat.le_refl _, by simp, hn⟩, Nat.sub_self]
        rfl
      · rw [if_neg (by omega), if_neg (fun h => hn h.2), if_neg (fun h => hn h.2.2)]
    · rw [if_neg (show ¬ (i = j ∧ m[j]? = some none) by omega)]
      by_cases hn : i + 1 ≤ j ∧ j < i + 1 + r.length ∧ m[j]? = some none
      · rw [if_pos hn, if_pos ⟨by omega, by rw [List.length_cons]; omega, hn.2.2⟩, show j - i = (j - (i + 1)) + 1 by omega, List.getElem?_cons_succ]
      · rw [if_neg hn, if_neg]
        rintro ⟨h1, h2, h3⟩
        rw [List.length_cons] at h2
        exact hn ⟨by omega, by omega, h3⟩
theorem runs_ge {m : List (Option UInt8)} {i : Nat} {l : List (Nat × List UInt8)} (h : Runs m i l) : ∀ p ∈ l, i ≤ p.1 ∧ 0 < p.2.length ∧ p.1 + p.2.length ≤ m.length := by
  induction h with
  | done h => intro p hp; cases hp
  | @run i a b xs l h1 h2 h3 h4 h5 h6 h7 h ih =>
    intro p hp
    rcases List.mem_cons.1 hp with rfl | hp
    · exact ⟨h1, by show 0 < xs.length; omega, by show a + xs.length ≤ _; omega⟩
    · have := ih p hp
      exact ⟨by omega, this.2⟩
theorem runs_tail {m : List (Option UInt8)} {i a : Nat} {xs : List UInt8} {l : List (Nat × List UInt8)} (h : Runs m i ((a, xs) :: l)) : ∀ p ∈ l, a + xs.length ≤ p.1 := by
  cases h with
  | @run _ _ b _ _ h1 h2 h3 h4 h5 h6 h7 h =>
    intro p hp
    have := (runs_ge h p hp).1
    omega
theorem runs_one {m : List (Option UInt8)} {i : Nat} {l l' : List (Nat × List UInt8)} (h : Runs m i l) (h' : Runs m i l') : l = l' := by
  induction h generalizing l' with
  | @done i h =>
    cases h' with
    | done => rfl
    | @run _ a b xs r h1 h2 h3 h4 h5 h6 h7 hr =>
      obtain ⟨x, e, _⟩ := h5 a (Nat.le_refl _) h3
      rw [h a h1 (by omega)] at e
      cases e
  | @run i a b xs r h1 h2 h3 h4 h5 h6 h7 hr ih =>
    cases h' with
    | done h =>
      obtain ⟨x, e, _⟩ := h5 a (Nat.le_refl _) h3
      rw [h a h1 (by omega)] at e
      cases e
    | @run _ a' b' xs' r' g1 g2 g3 g4 g5 g6 g7 gr =>
      have ha : a = a' := by
        rcases Nat.lt_trichotomy a a' with h | h | h
        · obtain ⟨x, e, _⟩ := h5 a (Nat.le_refl _) h3
          rw [g2 a h1 h] at e
          cases e
        · exact h
        · obtain ⟨x, e, _⟩ := g5 a' (Nat.le_refl _) g3
          rw [h2 a' g1 h] at e
          cases e
      subst ha
      have hb : b = b' := by
        rcases Nat.lt_trichotomy b b' with h | h | h
        · obtain ⟨x, e, _⟩ := g5 b (Nat.le_of_lt h3) h
          rcases h7 with h7 | h7
          · omega
          · rw [h7] at e; cases e
        · exact h
        · obtain ⟨x, e, _⟩ := h5 b' (Nat.le_of_lt g3) h
          rcases g7 with g7 | g7
          · omega
          · rw [g7] at e; cases e
      subst hb
      have hx : xs = xs' := by
        apply List.ext_getElem?
        intro k
        rcases Nat.lt_or_ge k xs.length with hk | hk
        · obtain ⟨x, e, f⟩ := h5 (a + k) (Nat.le_add_right _ _) (by omega)
          obtain ⟨y, e', f'⟩ := g5 (a + k) (Nat.le_add_right _ _) (by omega)
          rw [e] at e'
          injection e' with e'
          injection e' with e'
          subst e'
          rw [Nat.add_sub_cancel_left] at f f'
          rw [f, f']
        · rw [List.getElem?_eq_none hk, List.getElem?_eq_none (by omega)]
      rw [hx, ih gr]
theorem spAdd_id {a : Nat} (h : a ≤ 4294967295) : spAdd a 0 = a := by unfold spAdd; omega
theorem spAdd_self {a p : Nat} (h : a ≤ 4294967295) (hp : p ≤ 2048) : (spAdd a p = a) = (p = 0) := by
  unfold spAdd
  apply propext
  omega
theorem spDiff_two {a p q : Nat} (h : q ≤ p) (hp : p ≤ 100000) : spDiff (spAdd a p) (spAdd a q) = (p : Int) - (q : Int) := by
  unfold spDiff spAdd
  split <;> omega
theorem spDiff_self {a p : Nat} (h : a ≤ 4294967295) (hp : p ≤ 100000) : spDiff (spAdd a p) a = p := by
  have := spDiff_two (a := a) (Nat.zero_le p) hp
  rw [spAdd_id h] at this
  omega
/-- parts as they may be. -/
def PsOk (nq : Nat) (ps : List (Nat × List UInt8)) : Prop := ∀ p ∈ ps, p.1 ≤ 4294967295 ∧ 0 ≤ spDiff p.1 nq ∧ spDiff p.1 nq + (p.2.length : Int) ≤ 2048
theorem win0_len : win0.length = 2048 := List.length_replicate
theorem putG_ok {nq : Nat} {ps : List (Nat × List UInt8)} {sq : Nat} {xs : List UInt8} {nq' : Nat} {ps' : List (Nat × List UInt8)} {told : List UInt8} (h : PutG nq ps sq xs nq' ps' told) (hq : nq ≤ 4294967295) (hl : ps.length ≤ 8) (hps : PsOk nq ps) :
    nq' ≤ 4294967295 ∧ ps'.length ≤ 8 ∧ PsOk nq' ps' ∧ told.length ≤ 2048 := by
  have same : nq ≤ 4294967295 ∧ ps.length ≤ 8 ∧ PsOk nq ps ∧ ([] : List UInt8).length ≤ 2048 := ⟨hq, hl, hps, by simp⟩
  rcases h with ⟨_, rfl, rfl, rfl⟩ | ⟨_, l, hR, ⟨_, rfl, rfl, rfl⟩ | ⟨h8, rfl, rfl, rfl⟩⟩
  · exact same
  · exact same
  have hml : (layG (layP nq win0 ps) (wiAt (spDiff sq nq)) (wiTake (spDiff sq nq) xs)).length = 2048 := by rw [layG_len, layP_len, win0_len]
  have hge := runs_ge hR
  rw [hml] at hge
  have hlen : (putSeq nq (putRest nq l)).length ≤ 8 := by unfold putSeq; rw [List.length_map]; exact h8
  have hmap : ∀ (n0 : Nat) (r : List (Nat × List UInt8)), (∀ p ∈ r, n0 ≤ p.1 ∧ p.1 + p.2.length ≤ 2048) → PsOk (spAdd nq n0) (putSeq nq r) := by
    intro n0 r hr p hp
    unfold putSeq at hp
    obtain ⟨q, hq', rfl⟩ := List.mem_map.1 hp
    have h1 := hr q hq'
    have h2 := spAdd_lt nq q.1
    have h3 := spDiff_two (a := nq) h1.1 (p := q.1) (by omega)
    exact ⟨by show spAdd nq q.1 ≤ _; omega, by show 0 ≤ spDiff (spAdd nq q.1) (spAdd nq n0); omega, by show spDiff (spAdd nq q.1) (spAdd nq n0) + (q.2.length : Int) ≤ 2048; omega⟩
  rcases l with _ | ⟨⟨a, x⟩, r⟩
  · refine ⟨hq, hlen, ?_, by simp [putTold]⟩
    intro p hp
    simp [putRest, putSeq] at hp
  · rw [putNext_c, putRest_c, putTold_c]
    have h0 := hge _ List.mem_cons_self
    cases hz : spAdd nq a == nq with
    | true =>
      have ha : a = 0 := by
        have := beq_iff_eq.1 hz
        rwa [spAdd_self hq (by simp only at h0; omega)] at this
      have ht := runs_tail hR
      refine ⟨by rw [cond_true]; have := spAdd_lt nq x.length; omega, by rw [putRest_c, hz] at hlen; exact hlen, hmap _ _ fun p hp => ⟨?_, (hge p (List.mem_cons_of_mem _ hp)).2.2⟩, by rw [cond_true]; simp only at h0; omega⟩
      have := ht p hp
      omega
    | false =>
      refine ⟨hq, by rw [putRest_c, hz] at hlen; exact hlen, ?_, by simp⟩
      have := hmap 0 ((a, x) :: r) fun p hp => ⟨Nat.zero_le _, (hge p hp).2.2⟩
      rw [spAdd_id hq] at this
      exact this
end Go.Proofs.Ytlacidnnankjlaa

/-
  ether.Get, ether.Parse.
-/
namespace Go.Proofs.Ytlacidnnankjlaa
open Go.RowKit

/-- a frame (or none) and an error, its bytes in the call's own memory. -/
def EthAt (w : World) (r : Frm × Int) (v : Value) (w' : World) : Prop :=
  ∃ A c, v = .tuple #[.agg #[.int .i64 (r.1.d : Int), .int .i64 (r.1.s : Int), .int .i64 (r.1.t : Int), .slice A r.1.xs.length c], .int .i64 r.2] ∧ w'.ownsRow w.heap.size 5 1 (.slice A r.1.xs.length c) r.1.xs.length (r.1.xs.map bv) ∧ Below w.heap.size w w'
theorem size_frame : (Try.prog.info? 44).map (·.size) = some 4 := by kernel_rfl
theorem zero_frame (w : World) : (zeroValue 44).run Try.prog w = .ok (.agg ([.int .i64 0, .int .i64 0, .int .i64 0, nilV] : List Value).toArray) w := by kernel_rfl
theorem take_drop7 (xs : List UInt8) (k m : Nat) : (xs.take (k + m)).drop k = (xs.drop k).take m := by
  rw [List.drop_take, Nat.add_sub_cancel_left]
theorem cloneE (y : List UInt8) (n : Nat) (hn : y.length = n) (A : Option Addr) (c : Nat) (w : World) (hx : RB w w.heap.size A y) (hl : n ≤ 140737488351232) :
    Calls Try.prog 30 #[.slice A n c] w fun e w' => ∃ v, e = .returned v ∧ (∃ A' c', v = .slice A' n c' ∧ w'.ownsRow w.heap.size 5 1 (.slice A' n c') n (y.map bv) ∧ Below w.heap.size w w') :=
  (clone y n hn A c w hx hl).mono fun _ _ ⟨A', c', h1, h2, h3⟩ => ⟨_, h1, A', c', rfl, h2, h3⟩
theorem shl_8 (u : Nat) (h : u < 36028797018963968) (x y : Operand) (w : World) : (do eqGuard .shl 3 x y (.int .i64 (u : Int)) (.int .u64 8); binOp .shl 3 (.int .i64 (u : Int)) (.int .u64 8) : Sem Value).run Try.prog w = .ok (.int .i64 ((u : Int) * 256)) w := by
  have : IntKind.i64.wrap ((u : Int) * 256) = (u : Int) * 256 := IntWalk.i64_in _ (by omega)
  simp [go_sem, this]
theorem conv_xi (x : UInt8) (w : World) : (convert 5 3 (bv x)).run Try.prog w = .ok (.int .i64 (x.toNat : Int)) w := by
  have hx := x.toNat_lt
  have : IntKind.i64.wrap (x.toNat : Int) = (x.toNat : Int) := IntWalk.i64_in _ (by omega)
  simp [go_sem, this]
theorem or_x (u : Nat) (x : UInt8) (h : u < 36028797018963968) (p q : Operand) (w : World) : (do eqGuard .or 3 p q (.int .i64 ((u : Int) * 256)) (.int .i64 (x.toNat : Int)); binOp .or 3 (.int .i64 ((u : Int) * 256)) (.int .i64 (x.toNat : Int)) : Sem Value).run Try.prog w = .ok (.int .i64 ((u * 256 + x.toNat : Nat) : Int)) w := by
  have := or_shl u x h
  simp [go_sem]
  rw [this]
  simp
set_option maxRecDepth 100000 in
theorem ethGet (xs : List UInt8) (n : Nat) (hl : xs.length = n) (A : Option Addr) (c : Nat) (w : World) (hx : RB w w.heap.size A xs) (hn : n ≤ 7) :
    Calls Try.prog 29 #[.slice A n c] w fun e w' => e = .returned (.int .i64 ((ofB xs : Nat) : Int)) ∧ w = w' := by
  subst hl
  go_enter Try.func29, Try.ntmps29
  refine Has.start 18 [(0, .slice A xs.length c)] rfl rfl ⟨rfl, trivial⟩ ?_
  intro a0 H0
  refine H0.rg 1 fun a H => nt ?_
  refine H.rg 1 fun a H => ?_
  refine H.len gz rfl rfl rfl rfl Try.underlying27 fun a H => ?_
  refine H.ms 1 fun a H => nt ?_
  replace H := H.keep (l' := [(2, .int .i64 ((ofB (xs.take 0) : Nat) : Int)), (5, .slice A xs.length c), (6, .int .i64 (xs.length : Int)), (7, .int .i64 ((0 : Nat) : Int))]) ⟨rfl, rfl, rfl, rfl, trivial⟩
  refine wp_block ?_
  refine wp_loop_up xs.length (fun k a w' => Has a 18 [(2, .int .i64 ((ofB (xs.take k) : Nat) : Int)), (5, .slice A xs.length c), (6, .int .i64 (xs.length : Int)), (7, .int .i64 ((k : Nat) : Int))] ∧ w = w') ⟨H, rfl⟩ ?_
  clear H0 H
  rintro k a _ hk ⟨H, rfl⟩
  refine H.rg 0 fun a H => ?_
  by_cases hlt : k < xs.length
  rotate_left
  · refine H.bb 0 rfl rfl rfl rfl rfl rfl (lss_i _ _ false (by rw [decide_eq_false_iff_not]; omega) _ _ _) rfl fun a H => nt (wp_seq (H.condF rfl ?_))
    refine wp_exit ?_
    repeat (with_reducible refine then_exit ?_)
    refine block_leave (then_normal ?_)
    refine H.rg 2 fun a H => nt (wp_ret ?_)
    repeat (first | (with_reducible refine block_ret ?_) | (with_reducible refine then_ret ?_))
    have : k = xs.length := by omega
    subst this
    refine bodyPost_ret (results_tmp rfl _ _ _) H.df ⟨?_, rfl⟩
    rw [show a.tmps.getD 2 undef = .int .i64 ((ofB (xs.take xs.length) : Nat) : Int) from H.at_ 2 _ rfl, List.take_length]
  refine H.bb 0 rfl rfl rfl rfl rfl rfl (lss_i _ _ true (by rw [decide_eq_true_iff]; omega) _ _ _) rfl fun a H => nt (wp_seq (H.condT rfl ?_))
  refine skip_wp (then_normal ?_)
  obtain ⟨b, o, x, rfl, hbB, hxk, hcell⟩ := hx.get hlt
  have hs : ofB (xs.take (k + 1)) = ofB (xs.take k) * 256 + x.toNat := by rw [take_snoc? xs k x hxk, ofB_snoc]
  have ht1 : ofB (xs.take k) < 36028797018963968 := by
    have h1 := ofB_lt (xs.take k)
    have h2 : (256 : Nat) ^ (xs.take k).length ≤ 256 ^ 6 := Nat.pow_le_pow_right (by omega) (by rw [List.length_take]; omega)
    omega
  refine wp_seq_join (fun a w' => Has a 18 [(2, .int .i64 ((ofB (xs.take (k + 1)) : Nat) : Int)), (5, .slice (some ⟨b, o, none⟩) xs.length c), (6, .int .i64 (xs.length : Int)), (7, .int .i64 ((k : Nat) : Int))] ∧ w = w') ?_ ?_
  · refine wp_block ?_
    refine H.rg 0 fun a H => ?_
    refine H.index gz rfl rfl rfl rfl rfl (index_1 27 Try.underlying27 (fun _ => by kernel_rfl) b o xs.length c k hlt _) fun a H => ?_
    refine H.ld 1 (load1_u _ _ _ _ hcell) fun a H => nt ?_
    refine H.rg 1 fun a H => ?_
    refine H.bn 1 (shl_8 _ ht1 _ _ _) fun a H => ?_
    refine H.cv 0 (conv_xi x _) fun a H => ?_
    refine H.bn 1 (or_x _ x ht1 _ _ _) fun a H => wpList_nil (block_normal (then_normal ?_))
    rw [hs]
    exact ⟨H.keep ⟨rfl, rfl, rfl, rfl, trivial⟩, rfl⟩
  · rintro a _ ⟨H, rfl⟩
    refine H.rg 0 fun a H => ?_
    refine H.bb 1 rfl rfl rfl rfl rfl rfl (succ_i k (by omega) _ _ _) rfl fun a H => nt ?_
    exact ⟨hlt, H.keep ⟨rfl, rfl, rfl, rfl, trivial⟩, rfl⟩
set_option maxRecDepth 100000 in
set_option maxHeartbeats 1600000 in
theorem ethParse (xs : List UInt8) (n : Nat) (hn : xs.length = n) (A : Option Addr) (c : Nat) (hnc : n ≤ c) (w : World) (hx : RB w w.heap.size A xs) (hl : n ≤ 140737488351232) :
    Calls Try.prog 23 #[.slice A n c] w fun e w' => ∃ v, e = .returned v ∧ EthAt w (frOut xs) v w' := by
  go_enter Try.func23, Try.ntmps23
  refine Has.start 27 [(0, .slice A n c)] rfl rfl ⟨rfl, trivial⟩ ?_
  intro a0 H0
  have O0 := Own.start w
  refine rl ?_
  refine H0.al O0 1 zero_frame fun a1 w1 O1 H1 => nt ?_
  generalize hg : w.heap.size = g at O1 H1
  refine wp_seq (wp_block ?_)
  refine H1.rg 1 fun a2 H2 => ?_
  refine H2.len gz rfl rfl rfl rfl Try.underlying27 fun a3 H3 => ?_
  by_cases h14 : n < 14
  · refine H3.bb 1 rfl rfl rfl rfl rfl rfl (lss_i _ _ true (by rw [decide_eq_true_iff]; omega) _ _ _) rfl fun a4 H4 => nt (H4.condT rfl ?_)
    refine rl ?_
    refine H4.any (w' := w1) gz rfl rfl (.agg ([.int .i64 0, .int .i64 0, .int .i64 0, nilV] : List Value).toArray) (by intro cs b h; cases h) (by kernel_rfl) (by kernel_rfl) fun a5 H5 => ?_
    refine H5.st O1 0 1 (L := [.int .i64 0, .int .i64 0, .int .i64 0, nilV]) (fun a6 w2 O2 H6 => nt (wp_ret ?_)) size_frame
    repeat (first | (with_reducible refine block_ret ?_) | (with_reducible refine then_ret ?_))
    refine bodyPost_ret (results_two Try.results23 _ _ _ (H6.at_ 2 _ rfl) (H6.at_ 3 _ rfl) (O2.get 0 rfl) Try.underlying44 rfl _ size_frame rfl) H6.df ⟨_, rfl, ?_⟩
    unfold frOut
    rw [if_pos (by omega)]
    exact ⟨none, 0, rfl, World.ownsRow_nil _ _ _ _, hg ▸ O2.bel⟩
  refine H3.bb 1 rfl rfl rfl rfl rfl rfl (lss_i _ _ false (by rw [decide_eq_false_iff_not]; omega) _ _ _) rfl fun a4 H4 => nt (H4.condF rfl ?_)
  refine H4.rg 1 fun a5 H5 => ?_
  refine H5.len gz rfl rfl rfl rfl Try.underlying27 fun a6 H6 => ?_
  by_cases h15 : 1514 < n
  · refine H6.bb 1 rfl rfl rfl rfl rfl rfl (gtr_i _ _ true (by rw [decide_eq_true_iff]; omega) _ _ _) rfl fun a7 H7 => nt (H7.condT rfl ?_)
    refine rl ?_
    refine H7.any (w' := w1) gz rfl rfl (.agg ([.int .i64 0, .int .i64 0, .int .i64 0, nilV] : List Value).toArray) (by intro cs b h; cases h) (by kernel_rfl) (by kernel_rfl) fun a8 H8 => ?_
    refine H8.st O1 0 1 (L := [.int .i64 0, .int .i64 0, .int .i64 0, nilV]) (fun a9 w2 O2 H9 => nt (wp_ret ?_)) size_frame
    repeat (first | (with_reducible refine block_ret ?_) | (with_reducible refine then_ret ?_))
    refine bodyPost_ret (results_two Try.results23 _ _ _ (H9.at_ 2 _ rfl) (H9.at_ 3 _ rfl) (O2.get 0 rfl) Try.underlying44 rfl _ size_frame rfl) H9.df ⟨_, rfl, ?_⟩
    unfold frOut
    rw [if_neg (by omega), if_pos (by omega)]
    exact ⟨none, 0, rfl, World.ownsRow_nil _ _ _ _, hg ▸ O2.bel⟩
  refine H6.bb 1 rfl rfl rfl rfl rfl rfl (gtr_i _ _ false (by rw [decide_eq_false_iff_not]; omega) _ _ _) rfl fun a7 H7 => nt (H7.condF rfl (skip_wp (block_normal (then_normal ?_))))
  replace H7 := H7.keep (l' := [(0, .slice A n c), (2, .pointer (some ⟨g, 0, none⟩))]) ⟨rfl, rfl, trivial⟩
  have l1 : (xs.take 6).length = 6 := by rw [List.length_take]; omega
  have l2 : ((xs.drop 6).take 6).length = 6 := by rw [List.length_take, List.length_drop]; omega
  have l3 : ((xs.drop 12).take 2).length = 2 := by rw [List.length_take, List.length_drop]; omega
  have l4 : (xs.drop 14).length = n - 14 := by rw [List.length_drop]; omega
  have bl : ∀ {w' : World}, Own w g [(g, [.int .i64 0, .int .i64 0, .int .i64 0, nilV])] w' → Below w.heap.size w w' := fun h => hg ▸ h.bel
  have r2 : ∀ {w' : World}, Below w.heap.size w w' → RB w' w'.heap.size (if c = 6 then A else A.map (·.add 6)) ((xs.drop 6).take 6) := fun h => by
    have := ((hx.next h).take 12).cut (k := 6) (cap := c) (by rw [List.length_take]; omega) (by rw [List.length_take]; omega)
    rw [show (12 : Nat) = 6 + 6 from rfl, take_drop7] at this
    exact this
  have r3 : ∀ {w' : World}, Below w.heap.size w w' → RB w' w'.heap.size (if c = 12 then A else A.map (·.add 12)) ((xs.drop 12).take 2) := fun h => by
    have := ((hx.next h).take 14).cut (k := 12) (cap := c) (by rw [List.length_take]; omega) (by rw [List.length_take]; omega)
    rw [show (14 : Nat) = 12 + 2 from rfl, take_drop7] at this
    exact this
  have r4 : ∀ {w' : World}, Below w.heap.size w w' → RB w' w'.heap.size (if c = 14 then A else A.map (·.add 14)) (xs.drop 14) := fun h => (hx.next h).cut (k := 14) (cap := c) (by omega) (by omega)
  refine H7.sg (fun w' => Own w g [(g, [.int .i64 0, .int .i64 0, .int .i64 0, nilV])] w') O1.drew [0, 2]
    [ec 0 14 (.slice A n c), ec 1 15 (.slice A 6 c), ec 2 16 (.int .i64 ((num2 xs 0 6 : Nat) : Int)), ec 3 17 (.slice A n c), ec 4 18 (.slice (if c = 6 then A else A.map (·.add 6)) 6 (c - 6)), ec 5 19 (.int .i64 ((num2 xs 6 6 : Nat) : Int)), ec 6 20 (.slice A n c), ec 7 21 (.slice (if c = 12 then A else A.map (·.add 12)) 2 (c - 12)), ec 8 22 (.int .i64 ((num2 xs 12 2 : Nat) : Int)),
     ec 9 23 (.slice A n c), ec 10 24 (.slice (if c = 14 then A else A.map (·.add 14)) (n - 14) (c - 14)), ec 14 3 (.int .i64 0)] rfl ?_
  refine St.call 11 ⟨jm, jh fun _ => slice_h A n c 6 (by omega) hnc _, jq fun w' h => ethGet (xs.take 6) 6 l1 A c w' ((hx.next (bl h)).take 6) (by decide), jm, js2 fun _ => slice_lh A n c 6 12 (by decide) (by omega) hnc _, jq fun w' h => ethGet _ 6 l2 _ _ w' (r2 (bl h)) (by decide), jm, js2 fun _ => slice_lh A n c 12 14 (by decide) (by omega) hnc _, jq fun w' h => ethGet _ 2 l3 _ _ w' (r3 (bl h)) (by decide), jm, js1 fun _ => slice_lo A n c 14 (by omega) hnc _, jm, trivial⟩
    (fun wy h => cloneE (xs.drop 14) (n - 14) l4 _ (c - 14) wy (r4 (bl h)) (by omega)) ?_
  rintro wy _ wz hh ⟨A1, c1, rfl, hO, hb⟩
  have hgy : g < wy.heap.size := hh.lt 0 rfl
  have Oz := hh.call hb
  clear hb
  generalize wy.heap.size = bb at hO hgy
  refine nx (fun w' => Own w g [(g, [.int .i64 0, .int .i64 0, .int .i64 0, nilV])] w' ∧ w'.ownsRow bb 5 1 (.slice A1 (n - 14) c1) (n - 14) ((xs.drop 14).map bv)) [ec 12 26 (.agg ([.int .i64 ((num2 xs 0 6 : Nat) : Int), .int .i64 ((num2 xs 6 6 : Nat) : Int), .int .i64 ((num2 xs 12 2 : Nat) : Int), .slice A1 (n - 14) c1] : List Value).toArray)] [] ⟨Oz, hO⟩ ?_
  refine St.sto 13 ⟨ja (fun _ => by kernel_rfl), jm, trivial⟩ ?_
  rintro a8 wu H8 _ ⟨Ou, hOu⟩
  obtain ⟨w', hr, hg2, hs2, hC2⟩ := (Ou.get 0 rfl).sto (L := [.int .i64 ((num2 xs 0 6 : Nat) : Int), .int .i64 ((num2 xs 6 6 : Nat) : Int), .int .i64 ((num2 xs 12 2 : Nat) : Int), .slice A1 (n - 14) c1]) size_frame rfl rfl rfl
  refine ⟨w', run_store rfl (H8.ev rfl) (H8.ev rfl) hr, nx0 (fun w' => Own w g [(g, [.int .i64 ((num2 xs 0 6 : Nat) : Int), .int .i64 ((num2 xs 6 6 : Nat) : Int), .int .i64 ((num2 xs 12 2 : Nat) : Int), .slice A1 (n - 14) c1])] w' ∧ w'.ownsRow bb 5 1 (.slice A1 (n - 14) c1) (n - 14) ((xs.drop 14).map bv)) [] [] ⟨Ou.store 0 rfl hg2 hs2 hC2, hOu.kept hg2 (.inr (own_ne hOu (.inl hgy)).symm)⟩ ?_⟩
  refine St.fin ⟨jm, trivial⟩ ?_ (hF := .inl rfl)
  rintro a9 w3 H9 _ ⟨O3, hO3⟩
  refine then_normal (wp_ret ?_)
  repeat (first | (with_reducible refine block_ret ?_) | (with_reducible refine then_ret ?_))
  refine bodyPost_ret (results_two Try.results23 _ _ _ (H9.at_ 2 _ rfl) (H9.at_ 3 _ rfl) (O3.get 0 rfl) Try.underlying44 rfl _ size_frame rfl) H9.df ⟨_, rfl, ?_⟩
  unfold frOut
  rw [if_neg (by omega), if_neg (by omega)]
  refine ⟨A1, c1, ?_, ?_, hg ▸ O3.bel⟩
  · simp only [l4]
  · simp only [l4]
    exact own_base hO3 (by omega)
end Go.Proofs.Ytlacidnnankjlaa

/-
  trace.Segment: a frame's segment, of whatever bytes.
-/
namespace Go.Proofs.Ytlacidnnankjlaa
open Go.RowKit

/-- the packet and the segment that a frame carries. -/
def segIn (b : List UInt8) : Option (Pk × Sg) :=
  if (frOut b).2 ≠ 0 ∨ (frOut b).1.t ≠ 2048 then none
  else if (parseOut (frOut b).1.xs).2 ≠ 0 ∨ (parseOut (frOut b).1.xs).1.p ≠ 6 then none
  else if (segOut (parseOut (frOut b).1.xs).1.s (parseOut (frOut b).1.xs).1.d (parseOut (frOut b).1.xs).1.xs).2 ≠ 0 then none
  else some ((parseOut (frOut b).1.xs).1, (segOut (parseOut (frOut b).1.xs).1.s (parseOut (frOut b).1.xs).1.d (parseOut (frOut b).1.xs).1.xs).1)
abbrev pkL (p : Pk) (v : Value) : List Value := [.int .i64 p.s, .int .i64 p.d, .int .i64 p.p, .int .i64 p.t, .int .i64 p.i, v]
abbrev sgL (q : Sg) (v : Value) : List Value := [.int .i64 q.sp, .int .i64 q.dp, .int .i64 q.sq, .int .i64 q.ak, .int .i64 q.fl, .int .i64 q.wn, v]
/-- what 'Segment' answers. -/
def SegInV (W : World) : Option (Pk × Sg) → Value → World → Prop
  | none, v, w => v = .tuple #[.agg (pkL .zero nilV).toArray, .agg (sgL .zero nilV).toArray, .bool false] ∧ Below W.heap.size W w
  | some (p, q), v, w => ∃ A0 n0 c0 A c, v = .tuple #[.agg (pkL p (.slice A0 n0 c0)).toArray, .agg (sgL q (.slice A q.xs.length c)).toArray, .bool true] ∧ w.ownsRow W.heap.size 5 1 (.slice A q.xs.length c) q.xs.length (q.xs.map bv) ∧ Below W.heap.size W w
theorem size_pk27 : (Try.prog.info? 40).map (·.size) = some 6 := by kernel_rfl
theorem zero_pk27 (w : World) : (zeroValue 40).run Try.prog w = .ok (.agg (pkL .zero nilV).toArray) w := by kernel_rfl
theorem size_sg27 : (Try.prog.info? 30).map (·.size) = some 7 := by kernel_rfl
theorem zero_sg27 (w : World) : (zeroValue 30).run Try.prog w = .ok (.agg (sgL .zero nilV).toArray) w := by kernel_rfl
theorem parse_le (xs : List UInt8) : (parseOut xs).1.xs.length ≤ xs.length := by
  unfold parseOut
  repeat' split
  all_goals first | (simp [Pk.zero]; done) | skip
  simp [parsed]
  omega
theorem neq_k (u v : Int) (b : Bool) (h : (u != v) = b) (x y : Operand) (w : World) : (do eqGuard .neq 33 x y (.int .i64 u) (.int .i64 v); binOp .neq 33 (.int .i64 u) (.int .i64 v) : Sem Value).run Try.prog w = .ok (.bool b) w := by
  subst h
  simp [go_sem]
theorem ipParseT (xs : List UInt8) (A : Option Addr) (c : Nat) (hnc : xs.length ≤ c) (w : World) (hx : RB w w.heap.size A xs) (hn : xs.length ≤ 140737488351232) :
    Calls Try.prog 24 #[.slice A xs.length c] w fun e w' => ∃ v, e = .returned v ∧ ∃ A' c', v = .tuple #[.agg (pkL (parseOut xs).1 (.slice A' (parseOut xs).1.xs.length c')).toArray, .int .i64 (parseOut xs).2] ∧ w'.ownsRow w.heap.size 5 1 (.slice A' (parseOut xs).1.xs.length c') (parseOut xs).1.xs.length ((parseOut xs).1.xs.map bv) ∧ Below w.heap.size w w' :=
  (ipParse xs xs.length rfl A c hnc w hx hn).mono fun _ _ ⟨A', c', h1, h2, h3⟩ => ⟨_, h1, A', c', rfl, h2, h3⟩
theorem segParseT (src dst : Int) (xs : List UInt8) (A : Option Addr) (c : Nat) (hnc : xs.length ≤ c) (w : World) (hx : RB w w.heap.size A xs) (hn : xs.length ≤ 140737488351232) :
    Calls Try.prog 25 #[.int .i64 src, .int .i64 dst, .slice A xs.length c] w fun e w' => ∃ v, e = .returned v ∧ ∃ A' c', v = .tuple #[.agg (sgL (segOut src dst xs).1 (.slice A' (segOut src dst xs).1.xs.length c')).toArray, .int .i64 (segOut src dst xs).2] ∧ w'.ownsRow w.heap.size 5 1 (.slice A' (segOut src dst xs).1.xs.length c') (segOut src dst xs).1.xs.length ((segOut src dst xs).1.xs.map bv) ∧ Below w.heap.size w w' :=
  (segParse src dst xs xs.length rfl A c hnc w hx hn).mono fun _ _ ⟨A', c', h1, h2, h3⟩ => ⟨_, h1, A', c', rfl, h2, h3⟩
theorem results_cct {P : Program} {fn : Func} {p q r : Tmp} {T U : TypeId} (h : fn.results = #[.cell p T, .cell q U, .tmp r]) (tmps : Array Value) {u v z : Value} {x y : Addr} {w : World} (hp : tmps.getD p undef = .pointer (some x)) (hq : tmps.getD q undef = .pointer (some y)) (hr : tmps.getD r undef = z) (h1 : (loadVar T x).run P w = .ok u w) (h2 : (loadVar U y).run P w = .ok v w) : (results fn tmps).run P w = .ok (.tuple #[u, v, z]) w := by
  have hp' : tmps[p]?.getD undef = .pointer (some x) := by simpa using hp
  have hq' : tmps[q]?.getD undef = .pointer (some y) := by simpa using hq
  have hr' : tmps[r]?.getD undef = z := by simpa using hr
  simp [results, h, hp', hq', hr', asAddr, h1, h2]
theorem loadv_pk {w : World} {g : Nat} {L : List Value} (hC : Cells w g L) (hl : L.length = 6) : (loadVar 40 ⟨g, 0, none⟩).run Try.prog w = .ok (.agg L.toArray) w :=
  run_loadVar_mid w g 0 _ L _ hC.range Try.underlying40 rfl (by rw [hl]; exact size_pk27)
theorem loadv_sg {w : World} {g : Nat} {L : List Value} (hC : Cells w g L) (hl : L.length = 7) : (loadVar 30 ⟨g, 0, none⟩).run Try.prog w = .ok (.agg L.toArray) w :=
  run_loadVar_mid w g 0 _ L _ hC.range Try.underlying30 rfl (by rw [hl]; exact size_sg27)
set_option maxRecDepth 100000 in
set_option maxHeartbeats 3200000 in
theorem traceSegment (xs : List UInt8) (A : Option Addr) (c : Nat) (hnc : xs.length ≤ c) (w : World) (hx : RB w w.heap.size A xs) (hl : xs.length ≤ 140737488351232) :
    Calls Try.prog 14 #[.slice A xs.length c] w fun e w' => ∃ v, e = .returned v ∧ SegInV w (segIn xs) v w' := by
  go_enter Try.func14, Try.ntmps14
  refine Has.start 48 [(0, .slice A xs.length c)] rfl rfl ⟨rfl, trivial⟩ ?_
  intro a0 H0
  have O0 := Own.start w
  refine rl ?_
  refine H0.al O0 0 zero_pk27 fun a w1 O1 H => ?_
  generalize hg2 : w.heap.size = g2 at O1 H
  refine H.al O1 1 zero_sg27 fun a w2 O2 H => nt ?_
  generalize w1.heap.size = g3 at O2 H
  have bl : ∀ {bs : List (Nat × List Value)} {w'}, Own w g2 bs w' → Below w.heap.size w w' := fun h => hg2 ▸ h.bel
  replace H := H.keep (l' := [(0, .slice A xs.length c), (2, .pointer (some ⟨g2, 0, none⟩)), (3, .pointer (some ⟨g3, 0, none⟩))]) ⟨rfl, rfl, rfl, trivial⟩
  obtain ⟨ans, hans⟩ : ∃ ans, segIn xs = ans := ⟨_, rfl⟩
  refine wp_scope_one (k := 0) rfl (fun a w' => ans = none ∧ Has a 48 [(2, .pointer (some ⟨g2, 0, none⟩)), (3, .pointer (some ⟨g3, 0, none⟩))] ∧ ∃ L3 L2, L3.length = 7 ∧ L2.length = 6 ∧ Own w g2 [(g3, L3), (g2, L2)] w') (fun _ _ => 0) ?_ ?_
  rotate_left
  · clear H H0
    rintro a w3 ⟨rfl, H, L3, L2, hl3, hl2, O3⟩
    refine rl ?_
    refine H.any (w' := w3) gz rfl rfl (.agg (pkL .zero nilV).toArray) (by intro cs b h; cases h) (by kernel_rfl) (by kernel_rfl) fun a H => ?_
    refine H.any (w' := w3) gz rfl rfl (.agg (sgL .zero nilV).toArray) (by intro cs b h; cases h) (by kernel_rfl) (by kernel_rfl) fun a H => ?_
    refine H.st O3 1 0 (L := pkL .zero nilV) (L0 := L2) (fun a w4 O4 H => ?_) size_pk27 (h0 := hl2)
    refine H.st O4 0 1 (L := sgL .zero nilV) (L0 := L3) (fun a w5 O5 H => nt (wp_ret ?_)) size_sg27 (h0 := hl3)
    repeat (first | (with_reducible refine jump_ret ?_) | (with_reducible refine then_ret ?_))
    exact bodyPost_ret (results_cct rfl _ (H.at_ 2 _ rfl) (H.at_ 3 _ rfl) (H.at_ 4 _ rfl) (loadv_pk (O5.get 1 rfl) rfl) (loadv_sg (O5.get 0 rfl) rfl)) H.df ⟨_, rfl, by rw [hans]; exact ⟨rfl, bl O5⟩⟩
  intro hpass
  refine H.rg 1 fun a H => ?_
  refine H.cl (ethParse xs xs.length rfl A c hnc w2 (hx.next (bl O2)) hl) ?_
  have hfl := frOut_len xs
  have hans0 := hans
  unfold segIn at hans
  generalize frOut xs = fo at hans hfl
  obtain ⟨fr, fe⟩ := fo
  replace hfl : fr.xs.length ≤ xs.length := hfl
  rintro a _ w3 ⟨A1, c1, rfl, hO1, hb3⟩ H
  have O3 := O2.call hb3
  have hc1 := own_cap hO1
  refine H.ms 1 fun a H => ?_
  refine H.ex (r := .agg ([.int .i64 (fr.d : Int), .int .i64 (fr.s : Int), .int .i64 (fr.t : Int), .slice A1 fr.xs.length c1] : List Value).toArray) 0 fun a H => ?_
  refine H.ex (r := .int .i64 fe) 0 fun a H => ?_
  refine H.nk O3 1 (L := [.int .i64 (fr.d : Int), .int .i64 (fr.s : Int), .int .i64 (fr.t : Int), .slice A1 fr.xs.length c1]) rfl zero_frame size_frame fun a w4 hb4 O4 _ H => nt ?_
  have hO4 := own_below hO1 hb4
  have hg3 : g3 < w2.heap.size := O2.lt 0 rfl
  have hg23 : g2 < w2.heap.size := O2.lt 1 rfl
  generalize w3.heap.size = g5 at O4 H
  replace H := H.keep (l' := [(2, .pointer (some ⟨g2, 0, none⟩)), (3, .pointer (some ⟨g3, 0, none⟩)), (5, .pointer (some ⟨g5, 0, none⟩)), (6, .int .i64 fe)]) ⟨rfl, rfl, rfl, rfl, trivial⟩
  have drop1 : ∀ {x : Nat × List Value} {bs : List (Nat × List Value)} {w'}, Own w g2 (x :: bs) w' → Own w g2 bs w' := fun h => h.sub (List.sublist_cons_self _ _)
  by_cases he : fe = 0
  rotate_left
  · have hn : ans = none := by rw [← hans, if_pos (.inl he)]
    refine H.tb (Own w g2 [(g5, [.int .i64 (fr.d : Int), .int .i64 (fr.s : Int), .int .i64 (fr.t : Int), .slice A1 fr.xs.length c1]), (g3, sgL .zero nilV), (g2, pkL .zero nilV)]) (fun _ _ h hb => h.call hb) O4 [ec 0 12 (.int .i64 fe), ec 1 13 (.bool true), ec 2 14 (.bool true), ec 3 15 undef, ec 4 16 undef, ec 5 17 undef, ec 6 18 (.bool true)] rfl ⟨jm, jb fun _ => neq_k fe 0 true (by rw [bne_iff_ne]; exact he) _ _ _, jm, jo, jo, jo, jp, trivial⟩ ?_
    intro a w5 H O5
    refine then_normal (H.condT rfl (wp_goto ?_))
    repeat (with_reducible refine then_goto ?_)
    exact jump_goto ⟨hn, H.keep ⟨rfl, rfl, trivial⟩, _, _, rfl, rfl, drop1 O5⟩
  subst he
  obtain ⟨z, hz⟩ : ∃ z, ((fr.t : Int) != 2048) = z := ⟨_, rfl⟩
  refine H.tb (fun w' => Own w g2 [(g5, [.int .i64 (fr.d : Int), .int .i64 (fr.s : Int), .int .i64 (fr.t : Int), .slice A1 fr.xs.length c1]), (g3, sgL .zero nilV), (g2, pkL .zero nilV)] w' ∧ Below w4.heap.size w4 w') (fun _ _ h hb => ⟨h.1.call hb, h.2.trans (hb.mono h.2.size)⟩) ⟨O4, Below.refl _ _⟩ [ec 0 12 (.int .i64 0), ec 1 13 (.bool false), ec 2 14 (.bool false), ec 3 15 (.pointer (some ⟨g5, 2, none⟩)), ec 4 16 (.int .i64 (fr.t : Int)), ec 5 17 (.bool z), ec 6 18 (.bool z)] rfl ⟨jm, jb fun _ => neq_k 0 0 false rfl _ _ _, jm, jm, jl fun _ h => h.1.li 0 2, jb fun _ => neq_3 (fr.t : Int) 2048 z hz _ _ _, jp, trivial⟩ ?_
  rintro a w5 H ⟨O5, hb5⟩
  have hO5 := own_below hO4 hb5
  cases z with
  | true =>
    have hn : ans = none := by rw [← hans, if_pos (.inr (by have := bne_iff_ne.1 hz; show fr.t ≠ 2048; omega))]
    refine then_normal (H.condT rfl (wp_goto ?_))
    repeat (with_reducible refine then_goto ?_)
    exact jump_goto ⟨hn, H.keep ⟨rfl, rfl, trivial⟩, _, _, rfl, rfl, drop1 O5⟩
  | false =>
  have ht : fr.t = 2048 := by
    rw [bne_eq_false_iff_eq] at hz
    omega
  rw [if_neg (by rintro (h | h); exact h rfl; exact h ht)] at hans
  refine then_normal (H.condF rfl (skip_wp (then_normal ?_)))
  replace H := H.keep (l' := [(2, .pointer (some ⟨g2, 0, none⟩)), (3, .pointer (some ⟨g3, 0, none⟩)), (5, .pointer (some ⟨g5, 0, none⟩))]) ⟨rfl, rfl, rfl, trivial⟩
  refine H.rg 1 fun a H => ?_
  refine H.ld 0 (load1_31 _ _ _ _ _ _ ((O5.get 0 rfl).get 3 _ rfl)) fun a H => ?_
  have hw5 : w2.heap.size ≤ w5.heap.size := Nat.le_trans hb3.size (Nat.le_trans hb4.size hb5.size)
  refine H.cl (ipParseT fr.xs A1 c1 hc1 w5 (rb_of_own rfl hO5 hw5) (by omega)) ?_
  have hpl := parse_le fr.xs
  generalize parseOut fr.xs = po at hans hpl
  obtain ⟨pk, pe⟩ := po
  replace hpl : pk.xs.length ≤ fr.xs.length := hpl
  rintro a _ w6 ⟨A2, c2, rfl, hO6, hb6⟩ H
  have O6 := O5.call hb6
  have hc2 := own_cap hO6
  refine H.ms 1 fun a H => ?_
  refine H.ex (r := .agg (pkL pk (.slice A2 pk.xs.length c2)).toArray) 0 fun a H => ?_
  refine H.ex (r := .int .i64 pe) 0 fun a H => ?_
  refine H.storeS rfl rfl rfl rfl rfl (O6.get 2 rfl) size_pk27 rfl rfl rfl fun a w7 H hg7 hs7 hC7 => ?_
  have O7 := O6.store 2 rfl hg7 hs7 hC7
  have hO7 := hO6.kept hg7 (.inr (own_ne hO6 (.inl (Nat.lt_of_lt_of_le hg23 hw5))).symm)
  refine H.ms 1 fun a H => nt ?_
  replace H := H.keep (l' := [(2, .pointer (some ⟨g2, 0, none⟩)), (3, .pointer (some ⟨g3, 0, none⟩)), (6, .int .i64 pe)]) ⟨rfl, rfl, rfl, trivial⟩
  replace O7 : Own w g2 [(g3, sgL .zero nilV), (g2, pkL pk (.slice A2 pk.xs.length c2))] w7 := drop1 O7
  by_cases he : pe = 0
  rotate_left
  · have hn : ans = none := by rw [← hans, if_pos (.inl he)]
    refine H.tb (Own w g2 [(g3, sgL .zero nilV), (g2, pkL pk (.slice A2 pk.xs.length c2))]) (fun _ _ h hb => h.call hb) O7 [ec 0 25 (.int .i64 pe), ec 1 26 (.bool true), ec 2 27 (.bool true), ec 3 28 undef, ec 4 29 undef, ec 5 30 undef, ec 6 31 (.bool true)] rfl ⟨jm, jb fun _ => neq_k pe 0 true (by rw [bne_iff_ne]; exact he) _ _ _, jm, jo, jo, jo, jp, trivial⟩ ?_
    intro a w8 H O8
    refine then_normal (H.condT rfl (wp_goto ?_))
    repeat (with_reducible refine then_goto ?_)
    exact jump_goto ⟨hn, H.keep ⟨rfl, rfl, trivial⟩, _, _, rfl, rfl, O8⟩
  subst he
  obtain ⟨z, hz⟩ : ∃ z, (pk.p != 6) = z := ⟨_, rfl⟩
  refine H.tb (fun w' => Own w g2 [(g3, sgL .zero nilV), (g2, pkL pk (.slice A2 pk.xs.length c2))] w' ∧ Below w7.heap.size w7 w') (fun _ _ h hb => ⟨h.1.call hb, h.2.trans (hb.mono h.2.size)⟩) ⟨O7, Below.refl _ _⟩ [ec 0 25 (.int .i64 0), ec 1 26 (.bool false), ec 2 27 (.bool false), ec 3 28 (.pointer (some ⟨g2, 2, none⟩)), ec 4 29 (.int .i64 pk.p), ec 5 30 (.bool z), ec 6 31 (.bool z)] rfl ⟨jm, jb fun _ => neq_k 0 0 false rfl _ _ _, jm, jm, jl fun _ h => h.1.li 1 2, jb fun _ => neq_3 pk.p 6 z hz _ _ _, jp, trivial⟩ ?_
  rintro a w8 H ⟨O8, hb8⟩
  have hO8 := own_below hO7 hb8
  cases z with
  | true =>
    have hn : ans = none := by rw [← hans, if_pos (.inr (bne_iff_ne.1 hz))]
    refine then_normal (H.condT rfl (wp_goto ?_))
    repeat (with_reducible refine then_goto ?_)
    exact jump_goto ⟨hn, H.keep ⟨rfl, rfl, trivial⟩, _, _, rfl, rfl, O8⟩
  | false =>
  rw [if_neg (by rintro (h | h); exact h rfl; exact h (bne_eq_false_iff_eq.1 hz))] at hans
  refine then_normal (H.condF rfl (skip_wp (then_normal ?_)))
  replace H := H.keep (l' := [(2, .pointer (some ⟨g2, 0, none⟩)), (3, .pointer (some ⟨g3, 0, none⟩))]) ⟨rfl, rfl, trivial⟩
  refine H.rg 1 fun a H => ?_
  refine H.ld 1 (O8.li 1 0) fun a H => ?_
  refine H.ld 1 (O8.li 1 1) fun a H => ?_
  refine H.ld 0 (load1_31 _ _ _ _ _ _ ((O8.get 1 rfl).get 5 _ rfl)) fun a H => ?_
  have hw6 : w5.heap.size ≤ w8.heap.size := Nat.le_trans hb6.size (Nat.le_trans (Nat.le_of_eq hs7.symm) hb8.size)
  refine H.cl (segParseT pk.s pk.d pk.xs A2 c2 hc2 w8 (rb_of_own rfl hO8 hw6) (by omega)) ?_
  generalize hso : segOut pk.s pk.d pk.xs = so at hans
  obtain ⟨sg, se⟩ := so
  rintro a _ w9 ⟨A3, c3, rfl, hO9, hb9⟩ H
  have O9 := O8.call hb9
  refine H.ms 1 fun a H => ?_
  refine H.ex (r := .agg (sgL sg (.slice A3 sg.xs.length c3)).toArray) 0 fun a H => ?_
  refine H.ex (r := .int .i64 se) 0 fun a H => ?_
  refine H.storeS rfl rfl rfl rfl rfl (O9.get 0 rfl) size_sg27 rfl rfl rfl fun a w10 H hg10 hs10 hC10 => ?_
  have O10 := O9.store 0 rfl hg10 hs10 hC10
  have hw8 : w2.heap.size ≤ w8.heap.size := Nat.le_trans hw5 hw6
  have hO10 := hO9.kept hg10 (.inr (own_ne hO9 (.inl (Nat.lt_of_lt_of_le hg3 hw8))).symm)
  refine H.ms 1 fun a H => nt ?_
  refine H.rg 1 fun a H => ?_
  by_cases he : se = 0
  rotate_left
  · have hn : ans = none := by rw [← hans, if_pos he]
    refine H.bb 0 rfl rfl rfl rfl rfl rfl (neq_k se 0 true (by rw [bne_iff_ne]; exact he) _ _ _) rfl fun a H => nt (H.condT rfl (wp_goto ?_))
    repeat (with_reducible refine then_goto ?_)
    exact jump_goto ⟨hn, H.keep ⟨rfl, rfl, trivial⟩, _, _, rfl, rfl, O10⟩
  subst he
  rw [if_neg (fun h => h rfl)] at hans
  refine H.bb 0 rfl rfl rfl rfl rfl rfl (neq_k 0 0 false rfl _ _ _) rfl fun a H => nt (H.condF rfl (skip_wp (then_normal ?_)))
  replace H := H.keep (l' := [(2, .pointer (some ⟨g2, 0, none⟩)), (3, .pointer (some ⟨g3, 0, none⟩))]) ⟨rfl, rfl, trivial⟩
  have hgw : g3 < w8.heap.size ∧ g2 < w8.heap.size := ⟨by omega, by omega⟩
  refine H.sg (fun w' => Own w g2 [(g3, sgL sg (.slice A3 sg.xs.length c3)), (g2, pkL pk (.slice A2 pk.xs.length c2))] w' ∧ w'.ownsRow w8.heap.size 5 1 (.slice A3 sg.xs.length c3) sg.xs.length (sg.xs.map bv)) ⟨O10.drew, own_below hO10 (Below.drew (Below.refl _ _))⟩ [2, 3] [ec 0 44 (.agg (pkL pk (.slice A2 pk.xs.length c2)).toArray), ec 1 45 (.agg (sgL sg (.slice A3 sg.xs.length c3)).toArray)] rfl ?_
  refine St.sto 2 ⟨jl fun _ h => loadT (h.1.get 1 rfl) Try.underlying40 rfl size_pk27 rfl, jl fun _ h => loadT (h.1.get 0 rfl) Try.underlying30 rfl size_sg27 rfl, trivial⟩ ?_
  rintro a wu H _ ⟨Ou, hOu⟩
  obtain ⟨w', hr, hg', hs', hC'⟩ := (Ou.get 1 rfl).sto (L := pkL pk (.slice A2 pk.xs.length c2)) size_pk27 rfl rfl rfl
  refine ⟨w', run_store rfl (H.ev rfl) (H.ev rfl) hr, nx0 (fun w' => Own w g2 [(g3, sgL sg (.slice A3 sg.xs.length c3)), (g2, pkL pk (.slice A2 pk.xs.length c2))] w' ∧ w'.ownsRow w8.heap.size 5 1 (.slice A3 sg.xs.length c3) sg.xs.length (sg.xs.map bv)) [] [] ⟨Ou.store 1 rfl hg' hs' hC', hOu.kept hg' (.inr (own_ne hOu (.inl hgw.2)).symm)⟩ ?_⟩
  refine St.sto 3 ⟨jl fun _ h => loadT (h.1.get 0 rfl) Try.underlying30 rfl size_sg27 rfl, trivial⟩ ?_
  clear hr hg' hs' hC' Ou hOu
  rintro a wu H _ ⟨Ou, hOu⟩
  obtain ⟨w', hr, hg', hs', hC'⟩ := (Ou.get 0 rfl).sto (L := sgL sg (.slice A3 sg.xs.length c3)) size_sg27 rfl rfl rfl
  refine ⟨w', run_store rfl (H.ev rfl) (H.ev rfl) hr, nx0 (fun w' => Own w g2 [(g3, sgL sg (.slice A3 sg.xs.length c3)), (g2, pkL pk (.slice A2 pk.xs.length c2))] w' ∧ w'.ownsRow w8.heap.size 5 1 (.slice A3 sg.xs.length c3) sg.xs.length (sg.xs.map bv)) [ec 4 4 (.bool true)] [] ⟨Ou.store 0 rfl hg' hs' hC', hOu.kept hg' (.inr (own_ne hOu (.inl hgw.1)).symm)⟩ ?_⟩
  refine St.fin ⟨jm, trivial⟩ ?_
  rintro a w11 H _ ⟨O11, hO11⟩
  refine then_normal (wp_ret ?_)
  repeat (first | (with_reducible refine jump_ret ?_) | (with_reducible refine then_ret ?_))
  refine bodyPost_ret (results_cct rfl _ (H.at_ 2 _ rfl) (H.at_ 3 _ rfl) (H.at_ 4 _ rfl) (loadv_pk (O11.get 1 rfl) rfl) (loadv_sg (O11.get 0 rfl) rfl)) H.df ⟨_, rfl, ?_⟩
  rw [hans0, ← hans]
  exact ⟨_, _, _, A3, c3, rfl, own_base hO11 (by omega), bl O11⟩
end Go.Proofs.Ytlacidnnankjlaa

/-
  append, and where the row lies: where it lay, or in a new block.
-/
namespace Go.Proofs.Ytlacidnnankjlaa
open Go.RowKit

section
variable {P : Program} (w : World)
theorem run_append_readF (base : Nat) (t ty e : TypeId) (z : Value) (size bytes : Nat) (ht : P.underlying t = some (.slice e)) (hi : (P.info? e).map (fun i => (i.zero, i.size, i.bytes)) = some (some z, size, bytes)) (hzs : z.cells.size = size) (hsz : 0 < size)
    (v : Value) (n : Nat) (xs : List Value) (hown : w.ownsRow base e size v n xs)
    (B : Nat) (A : Option Addr) (m c : Nat) (news : List Value) (hr : Reads w B size A m news) (h1 : ∀ u ∈ news, u.oneCell' = true)
    (h63 : n + m ≤ maxLen) (hbytes : (n + m) * bytes ≤ 140737488355328) (hbase : base ≤ w.heap.size) :
    ∃ A' c' w', (Builtin.append_ #[t, t] ty #[v, .slice A m c]).run P w = .ok (.slice A' (n + m) c') w' ∧ w'.ownsRow base e size (.slice A' (n + m) c') (n + m) (xs ++ news) ∧ w.grownBy w' v.ownBlock ∧ ((Value.slice A' (n + m) c').ownBlock = v.ownBlock ∨ (Value.slice A' (n + m) c').ownBlock = some w.heap.size) := by
  obtain ⟨i, hi0, hz0, hz1, hz2⟩ := info_parts hi
  rcases A with _ | ad
  · have hm : m = 0 := by
      rcases Nat.eq_zero_or_pos m with h0 | h0
      · exact h0
      · obtain ⟨ad, h, _⟩ := hr.2 h0
        cases h
    subst hm
    have hn : news = [] := List.eq_nil_of_length_eq_zero (by simpa using hr.1)
    subst hn
    obtain ⟨A, c1, rfl, _, _⟩ := own_shape hown
    exact ⟨A, c1, w, run_append_of_nil w base t ty e i size ht hi0 _ n xs hown c, by simpa using hown, World.grownBy.refl w _, .inl rfl⟩
  · have hcells : ∀ j u, news[j]? = some u → w.cell? (ad.add j) = some u := by
      intro j u hu
      rcases Nat.eq_zero_or_pos m with h0 | h0
      · subst h0
        have hn : news = [] := List.eq_nil_of_length_eq_zero (by simpa using hr.1)
        subst hn
        simp at hu
      · obtain ⟨ad', h, _, hc⟩ := hr.2 h0
        injection h with h
        subst h
        exact hc j u hu
    obtain ⟨v', w', hrun, h2, h3, _, h4⟩ := run_append_own_at (P := P) w base t ty e i z size bytes ht hi0 hz0 hz1 hz2 hzs hsz v n xs hown ad m c news hr.1 hcells h1 h63 hbytes hbase
    obtain ⟨A', c', rfl, _, _⟩ := own_shape h2
    exact ⟨A', c', w', hrun, h2, h3, h4⟩
end
theorem run_appF {P : Program} {o : Oper} {a : Act} {w : World} {s x : Operand} {t : TypeId} (ho : o.op = .call { callee := .builtin .append, args := #[s, x], argTypes := #[t, t] }) {base : Nat} {e : TypeId} {z : Value} {size bytes : Nat} (ht : P.underlying t = some (.slice e)) (hi : (P.info? e).map (fun i => (i.zero, i.size, i.bytes)) = some (some z, size, bytes)) (hzs : z.cells.size = size) (hsz : 0 < size)
    {v : Value} {n : Nat} {xs : List Value} (hs : a.eval s = v) (hown : w.ownsRow base e size v n xs) {A : Option Addr} {m c : Nat} {ys : List Value} (hx : a.eval x = .slice A m c) (hr : Reads w w.heap.size size A m ys) (h1 : ∀ u ∈ ys, u.oneCell' = true) (hn : n + m ≤ maxLen) (hb : (n + m) * bytes ≤ 140737488355328) (hbase : base ≤ w.heap.size) :
    ∃ A' c' w', (execOp a.eval o).run P w = .ok (.value (.slice A' (n + m) c')) w' ∧ w'.ownsRow base e size (.slice A' (n + m) c') (n + m) (xs ++ ys) ∧ w.grownBy w' v.ownBlock ∧ ((Value.slice A' (n + m) c').ownBlock = v.ownBlock ∨ (Value.slice A' (n + m) c').ownBlock = some w.heap.size) := by
  obtain ⟨A', c', w', hrun, h2, h3⟩ := run_append_readF (P := P) w base t o.type e z size bytes ht hi hzs hsz v n xs hown w.heap.size A m c ys hr h1 hn hb hbase
  refine ⟨A', c', w', ?_, h2, h3⟩
  unfold execOp
  simp only [ho, resolve, invoke, builtin, Sem.run_bind, Sem.run_pure, Result.andThen_ok, List.map_toArray, List.map_cons, List.map_nil, hs, hx, hrun]
section
variable {ops : Array Oper} {Q : Exit → Act → World → Prop} {n : Nat} {fixed : List (Nat × Value)} {F : World → Prop} {es : List EntC} {done : List Nat} {d : Nat} {o : Oper}
/-- the next one appends cells to a row. -/
theorem St.appF (h : Nat) {s x : Operand} {t e : TypeId} {base size bytes m : Nat} {z : Value} {u : Value} {k c : Nat} {A : Option Addr} {xs ys : List Value} (hi : (Try.prog.info? e).map (fun i => (i.zero, i.size, i.bytes)) = some (some z, size, bytes)) (hl : LightAll ops Q n fixed F es done es)
    (hrun : ∀ w, F w → w.ownsRow base e size u k xs ∧ Reads w w.heap.size size A m ys ∧ base ≤ w.heap.size) (h1 : ∀ u ∈ ys, u.oneCell' = true) (hn : k + m ≤ maxLen ∧ (k + m) * bytes ≤ 140737488355328) (hk : ∀ w A' c' w', F w → w'.ownsRow base e size (.slice A' (k + m) c') (k + m) (xs ++ ys) → w.grownBy w' u.ownBlock → ((Value.slice A' (k + m) c').ownBlock = u.ownBlock ∨ (Value.slice A' (k + m) c').ownBlock = some w.heap.size) → Nx ops Q n fixed es done h d (.slice A' (k + m) c') w w')
    (ho : ops[h]? = some o := by rfl) (hp : o.op = .call { callee := .builtin .append, args := #[s, x], argTypes := #[t, t] } := by rfl) (hd : o.dst = some d := by rfl) (ht : Try.prog.underlying t = some (.slice e) := by kernel_rfl) (hzs : z.cells.size = size := by rfl) (hsz : 0 < size := by decide) (hg : okG ops (fixed ++ knownE (afts ops h) es) o = true := by rfl)
    (hs : evL (fixed ++ knownE (afts ops h) es) s = some u := by rfl) (hx : evL (fixed ++ knownE (afts ops h) es) x = some (.slice A m c) := by rfl) (hB : stB ops n fixed es done h = true := by kernel_rfl) (hN : Nat.ble ops.size 1000 = true := by kernel_rfl) (hback : backB ops = true := by kernel_rfl)
    (hF : es.all plainB = true ∨ ∀ w w', F w → Below w.heap.size w w' → F w' := by exact .inl rfl) (hst : StabAll es := by exact trivial) : St ops Q n fixed es F done := by
  refine St.val h hl ?_ ho hd hg hB hN hback hF hst
  intro a w H _ hFw
  obtain ⟨r1, r2, r3⟩ := hrun w hFw
  obtain ⟨A', c', w', hr, hO, hgr, hfr⟩ := run_appF (a := a) hp ht hi hzs hsz (H.ev hs) r1 (H.ev hx) r2 h1 hn.1 hn.2 r3
  exact ⟨_, w', hr, hk w A' c' w' hFw hO hgr hfr⟩
end
end Go.Proofs.Ytlacidnnankjlaa

/-
  A listener hears a segment.
-/
namespace Go.Proofs.Ytlacidnnankjlaa
open Go.RowKit

/-- a listener. -/
structure Lst where
  up : Bool
  nq : Nat
  ps : List (Nat × List UInt8)
  b : List UInt8
  rst : Bool
  fins : List Nat
def Lst.zero : Lst := ⟨false, 0, [], [], false, []⟩
abbrev lstC (x : Lst) (AP : Option Addr) (cP : Nat) (vB vF : Value) : List Value := [.int .i64 (x.nq : Int), .slice AP x.ps.length cP, .bool x.up, vB, .bool x.rst, vF]
abbrev natV (n : Nat) : Value := .int .i64 (n : Int)
/-- blocks that a listener's parts may lie in. -/
def LstS (g : Nat) (vB vF : Value) (k : Nat) : Prop := g < k ∧ some k ≠ vB.ownBlock ∧ some k ≠ vF.ownBlock
/-- a listener in the memory, its rows. -/
def LstM (g : Nat) (x : Lst) (AP : Option Addr) (vB vF : Value) (w : World) : Prop :=
  w.ownsRow (g + 1) 5 1 vB x.b.length (x.b.map bv) ∧ w.ownsRow (g + 1) 3 1 vF x.fins.length (x.fins.map natV) ∧ PartsS w (LstS g vB vF) AP x.ps
theorem LstM.next {g : Nat} {x : Lst} {AP : Option Addr} {vB vF : Value} {w w' : World} (h : LstM g x AP vB vF w) (hb : Below w.heap.size w w') : LstM g x AP vB vF w' :=
  ⟨own_below h.1 hb, own_below h.2.1 hb, h.2.2.grown (below_grown hb none) (fun k e => by cases e)⟩
theorem LstM.box {g k0 : Nat} {x : Lst} {AP : Option Addr} {vB vF : Value} {w w' : World} (h : LstM g x AP vB vF w) (hg : w.grownBy w' (some k0)) (hk : k0 ≤ g) : LstM g x AP vB vF w' :=
  ⟨h.1.kept hg (.inr (own_ne h.1 (.inl (Nat.lt_succ_of_le hk))).symm), h.2.1.kept hg (.inr (own_ne h.2.1 (.inl (Nat.lt_succ_of_le hk))).symm), h.2.2.grown hg (fun k e hS => by injection e with e; have := hS.1; omega)⟩
theorem LstS.turn {g k : Nat} {vB vF vF' : Value} {w : World} (hfr : vF'.ownBlock = vF.ownBlock ∨ vF'.ownBlock = some w.heap.size) (h : LstS g vB vF k ∧ k < w.heap.size) : LstS g vB vF' k := by
  refine ⟨h.1.1, h.1.2.1, fun e => ?_⟩
  rcases hfr with hf | hf
  · rw [hf] at e; exact h.1.2.2 e
  · rw [hf] at e; injection e with e; omega
theorem LstS.turnB {g k : Nat} {vB vF vB' : Value} {w : World} (hfr : vB'.ownBlock = vB.ownBlock ∨ vB'.ownBlock = some w.heap.size) (h : LstS g vB vF k ∧ k < w.heap.size) : LstS g vB' vF k := by
  refine ⟨h.1.1, fun e => ?_, h.1.2.2⟩
  rcases hfr with hf | hf
  · rw [hf] at e; exact h.1.2.1 e
  · rw [hf] at e; injection e with e; omega
theorem RBS.fin {g : Nat} {vB vF vF' : Value} {A : Option Addr} {xs : List UInt8} {w w' : World} (h : RBS w (LstS g vB vF) A xs) (hg : w.grownBy w' vF.ownBlock) (hfr : vF'.ownBlock = vF.ownBlock ∨ vF'.ownBlock = some w.heap.size) : RBS w' (LstS g vB vF') A xs :=
  ((h.mono (S' := fun k => LstS g vB vF k ∧ k < w.heap.size) (fun _ hk hS => ⟨hS, hk⟩)).grown hg (fun _k e hS => hS.1.2.2 e.symm)).mono fun _ _ hS => LstS.turn hfr hS
theorem LstM.fin {g n : Nat} {x : Lst} {AP : Option Addr} {vB vF vF' : Value} {w w' : World} (h : LstM g x AP vB vF w) (hO : w'.ownsRow (g + 1) 3 1 vF' (x.fins.length + 1) (x.fins.map natV ++ [natV n])) (hg : w.grownBy w' vF.ownBlock) (hfr : vF'.ownBlock = vF.ownBlock ∨ vF'.ownBlock = some w.heap.size) : LstM g { x with fins := x.fins ++ [n] } AP vB vF' w' :=
  ⟨h.1.kept hg (own_apart h.1 h.2.1 rfl), by
    show w'.ownsRow (g + 1) 3 1 vF' (x.fins ++ [n]).length ((x.fins ++ [n]).map natV)
    rw [List.length_append, List.map_append]; exact hO,
   ((h.2.2.mono (S' := fun k => LstS g vB vF k ∧ k < w.heap.size) (fun _ hk hS => ⟨hS, hk⟩)).grown hg (fun k e hS => hS.1.2.2 e.symm)).mono fun _ _ hS => LstS.turn hfr hS⟩
/-- in the middle of hearing. -/
def HearF (W : World) (B g g3 : Nat) (L3 : List Value) (x : Lst) (AP : Option Addr) (cP : Nat) (vB vF : Value) (A : Option Addr) (xs : List UInt8) (w : World) : Prop :=
  Own W B [(g3, L3), (g, lstC x AP cP vB vF)] w ∧ LstM g x AP vB vF w ∧ RBS w (LstS g vB vF) A xs
theorem HearF.next {W : World} {B g g3 : Nat} {L3 : List Value} {x : Lst} {AP : Option Addr} {cP : Nat} {vB vF : Value} {A : Option Addr} {xs : List UInt8} {w w' : World} (h : HearF W B g g3 L3 x AP cP vB vF A xs w) (hb : Below w.heap.size w w') : HearF W B g g3 L3 x AP cP vB vF A xs w' :=
  ⟨h.1.call hb, h.2.1.next hb, h.2.2.grown (below_grown hb none) (fun k e => by cases e)⟩
/-- what a listener has heard of a segment. -/
def HearG (q : Sg) (sq : Nat) (x x' : Lst) : Prop :=
  if (bits .and .i64 q.fl 2 != 0) = true then x' = ⟨true, spAdd sq 1, [], [], false, []⟩
  else if x.up = false then x' = x
  else ∃ nq' ps' told, PutG x.nq x.ps sq q.xs nq' ps' told ∧ x' = ⟨true, nq', ps', x.b ++ told, x.rst || (bits .and .i64 q.fl 4 != 0), if (bits .and .i64 q.fl 1 != 0) = true then x.fins ++ [spAdd sq q.xs.length] else x.fins⟩
theorem size_lst : (Try.prog.info? 51).map (·.size) = some 6 := by kernel_rfl
theorem Cells.pre {w : World} {g : Nat} {l1 l2 : List Value} (h : Cells w g (l1 ++ l2)) : Cells w g l1 := fun j v hv => h j v (by rw [List.getElem?_append_left (List.getElem?_eq_some_iff.1 hv).1]; exact hv)
theorem store_buf {w : World} {g : Nat} {c0 c1 a b : Value} {R : List Value} (hC : Cells w g (c0 :: c1 :: R)) (h1 : ([a, b] : List Value).all (·.oneCell') = true) :
    ∃ w', (Instr.storeAt 49 (.pointer (some ⟨g, 0, none⟩)) (.agg ([a, b] : List Value).toArray)).run Try.prog w = .ok () w' ∧ w.grownBy w' (some g) ∧ Cells w' g (a :: b :: R) := by
  have hp : Cells w g [c0, c1] := Cells.pre (l2 := R) hC
  refine ⟨_, run_storeAt_mid w g 0 _ ([a, b] : List Value).toArray (by simpa using hp.there) size_buf (all_oneCell_toArray fun v hv => List.all_eq_true.1 h1 v hv), (setCells_only g _ 0 w).2, ?_⟩
  exact (hC.set 0 a (Nat.succ_pos _)).set 1 b (Nat.succ_lt_succ (Nat.succ_pos _))
/-- behind 'Put': blocks that nobody writes to. -/
def PutS (g h3 : Nat) (wz : World) (vB vF : Value) (k : Nat) : Prop := LstS g vB vF k ∧ (k < h3 ∨ (k < wz.heap.size ∧ ¬ TypB wz k 49))
/-- behind 'Put'. -/
def PutF (W : World) (B g : Nat) (bs : List (Nat × List Value)) (xs : List UInt8) (fs : List Nat) (vB vF : Value) (S : Nat → Prop) (ps : List (Nat × List UInt8)) (A' : Option Addr) (told : List UInt8) (A2 : Option Addr) (w : World) : Prop :=
  Own W B bs w ∧ (w.ownsRow (g + 1) 5 1 vB xs.length (xs.map bv) ∧ w.ownsRow (g + 1) 3 1 vF fs.length (fs.map natV)) ∧ PartsS w S A' ps ∧ RBS w S A2 told
theorem PutF.next {W : World} {B g : Nat} {bs : List (Nat × List Value)} {xs : List UInt8} {fs : List Nat} {vB vF : Value} {S : Nat → Prop} {ps : List (Nat × List UInt8)} {A' : Option Addr} {told : List UInt8} {A2 : Option Addr} {w w' : World} (h : PutF W B g bs xs fs vB vF S ps A' told A2 w) (hb : Below w.heap.size w w') : PutF W B g bs xs fs vB vF S ps A' told A2 w' :=
  ⟨h.1.call hb, ⟨own_below h.2.1.1 hb, own_below h.2.1.2 hb⟩, h.2.2.1.grown (below_grown hb none) (fun k e => by cases e), h.2.2.2.grown (below_grown hb none) (fun k e => by cases e)⟩
theorem and_bits (u v : Int) (x y : Operand) (w : World) : (do eqGuard .and 3 x y (.int .i64 u) (.int .i64 v); binOp .and 3 (.int .i64 u) (.int .i64 v) : Sem Value).run Try.prog w = .ok (.int .i64 (bits .and .i64 u v)) w := by kernel_rfl
theorem store1_is (g o n c : Nat) (A : Option Addr) (u : Value) (w : World) (h : w.cell? ⟨g, o, none⟩ = some u) (hf : w.frozen? ⟨g, o, none⟩ = false) : (Instr.storeAt 23 (.pointer (some ⟨g, o, none⟩)) (.slice A n c)).run Try.prog w = .ok () (w.setCell ⟨g, o, none⟩ (.slice A n c)) := by
  simp [go_sem, h, hf]
theorem info_fi : (Try.prog.info? 3).map (fun i => (i.zero, i.size, i.bytes)) = some (some (.int .i64 0), 1, 8) := by kernel_rfl
theorem field_sg4 (g : Nat) (w : World) : (Instr.fieldAt 30 (.pointer (some ⟨g, 0, none⟩)) 4).run Try.prog w = .ok (.pointer (some ⟨g, 4, none⟩)) w := by kernel_rfl
theorem putG_tl {nq : Nat} {ps : List (Nat × List UInt8)} {sq : Nat} {xs : List UInt8} {nq' : Nat} {ps' : List (Nat × List UInt8)} {told : List UInt8} (h : PutG nq ps sq xs nq' ps' told) : told.length ≤ 2048 := by
  rcases h with ⟨_, _, _, rfl⟩ | ⟨_, l, hR, ⟨_, _, _, rfl⟩ | ⟨_, _, _, rfl⟩⟩
  · simp
  · simp
  · rcases l with _ | ⟨⟨a, x⟩, r⟩
    · simp [putTold]
    · rw [putTold_c]
      cases hR with
      | @run _ _ b _ _ h1 h2 h3 h4 h5 h6 h7 h =>
        have : (layG (layP nq win0 ps) (wiAt (spDiff sq nq)) (wiTake (spDiff sq nq) xs)).length = 2048 := by rw [layG_len, layP_len]; exact List.length_replicate
        cases spAdd nq a == nq with
        | true => rw [cond_true]; omega
        | false => rw [cond_false]; simp
set_option maxRecDepth 100000 in
set_option maxHeartbeats 3200000 in
theorem hearW (W : World) (B g : Nat) (x : Lst) (AP : Option Addr) (cP : Nat) (vB vF : Value) (q : Sg) (sq : Nat) (hsq : q.sq = (sq : Int)) (hsl : sq ≤ 4294967295) (A : Option Addr) (c : Nat) (w : World) (O : Own W B [(g, lstC x AP cP vB vF)] w) (M : LstM g x AP vB vF w) (hr : RBS w (LstS g vB vF) A q.xs) (hc : q.xs.length ≤ c)
    (hn : q.xs.length ≤ 65536) (hq : x.nq ≤ 4294967295) (hl : x.ps.length ≤ 100000) (hps : ∀ p ∈ x.ps, p.1 ≤ 4294967295 ∧ 0 ≤ spDiff p.1 x.nq ∧ spDiff p.1 x.nq + (p.2.length : Int) ≤ 2048) (hbl : x.b.length ≤ 1000000000) (hfl : x.fins.length ≤ 1000000000) :
    Calls Try.prog 15 #[.pointer (some ⟨g, 0, none⟩), .agg (sgL q (.slice A q.xs.length c)).toArray] w fun e w' => e = .returned (.tuple #[]) ∧ ∃ x' AP' cP' vB' vF', HearG q sq x x' ∧ Own W B [(g, lstC x' AP' cP' vB' vF')] w' ∧ LstM g x' AP' vB' vF' w' := by
  go_enter Try.func15, Try.ntmps15
  refine Has.start 79 [(0, .pointer (some ⟨g, 0, none⟩)), (1, .agg (sgL q (.slice A q.xs.length c)).toArray)] rfl rfl ⟨rfl, rfl, trivial⟩ ?_
  intro a0 H0
  have hgw := O.lt 0 rfl
  refine rl ?_
  refine H0.bx (Own.start w) 0 (L := sgL q (.slice A q.xs.length c)) fun a w1 Oq H => nt ?_
  have M1 := M.next Oq.bel
  have hF3 : some w.heap.size ≠ vF.ownBlock := own_ne M.2.1 (.inr (Nat.le_refl _))
  have hB3 : some w.heap.size ≠ vB.ownBlock := own_ne M.1 (.inr (Nat.le_refl _))
  have O1 := addq0 (O.call Oq.bel) (Nat.le_of_lt (Nat.lt_of_le_of_lt (O.ge 0 rfl) hgw)) (Oq.lt 0 rfl) (by intro p hp; rw [List.mem_singleton.1 hp]; exact Nat.ne_of_lt hgw) (Oq.get 0 rfl)
  replace hr := hr.grown (below_grown Oq.bel none) (fun k e => by cases e)
  clear M Oq O
  generalize w.heap.size = g3 at O1 H hgw hF3 hB3
  have hg3 : g3 ≠ g := Ne.symm (Nat.ne_of_lt hgw)
  replace H := H.keep (l' := [(0, .pointer (some ⟨g, 0, none⟩)), (3, .pointer (some ⟨g3, 0, none⟩))]) ⟨rfl, rfl, trivial⟩
  have drop1 : ∀ {x : Nat × List Value} {bs : List (Nat × List Value)} {w'}, Own W B (x :: bs) w' → Own W B bs w' := fun h => h.sub (List.sublist_cons_self _ _)
  obtain ⟨z2, hz2⟩ : ∃ z, (bits .and .i64 q.fl 2 != 0) = z := ⟨_, rfl⟩
  refine H.rg 1 fun a H => ?_
  refine H.ld 0 (O1.li 0 4) fun a H => ?_
  refine H.bn 0 (and_bits q.fl 2 _ _ _) fun a H => ?_
  refine H.bb 0 rfl rfl rfl rfl rfl rfl (neq_3 (bits .and .i64 q.fl 2) 0 z2 hz2 _ _ _) rfl fun a H => nt ?_
  replace H := H.keep (l' := [(0, .pointer (some ⟨g, 0, none⟩)), (3, .pointer (some ⟨g3, 0, none⟩)), (9, .bool z2)]) ⟨rfl, rfl, rfl, trivial⟩
  cases z2 with
  | true =>
    refine H.condT rfl ?_
    refine H.rg 2 fun a H => ?_
    refine H.ld 0 (O1.li 0 2) fun a H => ?_
    rw [hsq] at H
    refine H.cq 0 (spanAdd sq 1 (by omega) (by decide) w1) fun a H => ?_
    refine H.any (w' := w1) gz rfl rfl (.agg ([.int .i64 (spAdd sq 1 : Nat), nilV] : List Value).toArray) (by intro cs b h; cases h) (by kernel_rfl) (by kernel_rfl) fun a H => ?_
    refine H.any (w' := w1) gz rfl rfl (.agg (lstC ⟨true, spAdd sq 1, [], [], false, []⟩ none 0 nilV nilV).toArray) (by intro cs b h; cases h) (by kernel_rfl) (by kernel_rfl) fun a H => ?_
    refine H.ms 1 fun a H => ?_
    refine H.st O1 1 0 (L := lstC ⟨true, spAdd sq 1, [], [], false, []⟩ none 0 nilV nilV) (fun a w2 O2 H => nt (wp_ret ?_)) size_lst
    repeat (first | (with_reducible refine block_ret ?_) | (with_reducible refine then_ret ?_))
    refine bodyPost_ret (results_none rfl _ _ _) H.df ⟨rfl, ⟨true, spAdd sq 1, [], [], false, []⟩, none, 0, nilV, nilV, ?_, drop1 O2, World.ownsRow_nil _ _ _ _, World.ownsRow_nil _ _ _ _, PartsS.nil⟩
    unfold HearG
    rw [if_pos hz2]
  | false =>
  refine H.condF rfl (skip_wp (then_normal ?_))
  replace H := H.keep (l' := [(0, .pointer (some ⟨g, 0, none⟩)), (3, .pointer (some ⟨g3, 0, none⟩))]) ⟨rfl, rfl, trivial⟩
  refine H.rg 3 fun a H => ?_
  refine H.ld 0 (O1.lb 1 2) fun a H => ?_
  refine H.un gz rfl rfl rfl rfl (run_not x.up _) fun a H => nt ?_
  replace H := H.keep (l' := [(0, .pointer (some ⟨g, 0, none⟩)), (3, .pointer (some ⟨g3, 0, none⟩)), (21, .bool (!x.up))]) ⟨rfl, rfl, rfl, trivial⟩
  cases hup : x.up with
  | false =>
    rw [hup] at H
    refine H.condT rfl (wp_ret ?_)
    repeat (first | (with_reducible refine block_ret ?_) | (with_reducible refine then_ret ?_))
    refine bodyPost_ret (results_none rfl _ _ _) H.df ⟨rfl, x, AP, cP, vB, vF, ?_, drop1 O1, M1⟩
    unfold HearG
    rw [if_neg (by rw [hz2]; decide), if_pos hup]
  | true =>
  rw [hup] at H
  have O1 : Own W B [(g3, sgL q (.slice A q.xs.length c)), (g, [.int .i64 (x.nq : Int), .slice AP x.ps.length cP, .bool true, vB, .bool x.rst, vF])] w1 := by rw [← hup]; exact O1
  refine H.condF rfl (skip_wp (then_normal ?_))
  replace H := H.keep (l' := [(0, .pointer (some ⟨g, 0, none⟩)), (3, .pointer (some ⟨g3, 0, none⟩))]) ⟨rfl, rfl, trivial⟩
  obtain ⟨z4, hz4⟩ : ∃ z, (bits .and .i64 q.fl 4 != 0) = z := ⟨_, rfl⟩
  refine wp_seq_join (fun a w' => Has a 79 [(0, .pointer (some ⟨g, 0, none⟩)), (3, .pointer (some ⟨g3, 0, none⟩))] ∧ Own W B [(g3, sgL q (.slice A q.xs.length c)), (g, lstC ⟨true, x.nq, x.ps, x.b, x.rst || z4, x.fins⟩ AP cP vB vF)] w' ∧ LstM g ⟨true, x.nq, x.ps, x.b, x.rst || z4, x.fins⟩ AP vB vF w' ∧ RBS w' (LstS g vB vF) A q.xs) ?_ ?_
  · refine H.rg 4 fun a H => ?_
    refine H.ld 1 (O1.lb 1 4) fun a H => ?_
    cases hrs : x.rst with
    | true =>
      rw [hrs] at H
      refine H.off rfl rfl rfl rfl rfl fun a H => ?_
      refine H.off rfl rfl rfl rfl rfl fun a H => ?_
      refine H.off rfl rfl rfl rfl rfl fun a H => ?_
      refine H.off rfl rfl rfl rfl rfl fun a H => ?_
      refine H.pick gz rfl rfl rfl rfl rfl fun a H => ?_
      refine H.ms 2 fun a H => ?_
      refine H.put1 (O1.get 1 rfl) 0 (fun u => store1_b _ _ _ u _) fun a w2 C2 g2' H => nt ?_
      refine ⟨H.keep ⟨rfl, rfl, trivial⟩, ?_, M1.box g2' (Nat.le_refl g), hr.grown g2' (fun k e h => by injection e with e; exact absurd h.1 (by omega))⟩
      exact O1.turn 1 rfl g2' C2
    | false =>
      rw [hrs] at H
      refine H.go (H.wt rfl rfl rfl) rfl rfl _ (run_field rfl (H.ev rfl) field_sg4) fun a H => ?_
      refine H.load (H.wt rfl rfl rfl) rfl rfl rfl rfl (O1.li 0 4) fun a H => ?_
      refine H.bin (H.wt rfl rfl rfl) rfl rfl rfl rfl rfl (and_bits q.fl 4 _ _ _) fun a H => ?_
      refine H.bin (H.wt rfl rfl rfl) rfl rfl rfl rfl rfl (neq_3 (bits .and .i64 q.fl 4) 0 z4 hz4 _ _ _) fun a H => ?_
      refine H.pick gz rfl rfl rfl rfl rfl fun a H => ?_
      refine H.ms 2 fun a H => ?_
      refine H.put1 (O1.get 1 rfl) 0 (fun u => store1_b _ _ _ u _) fun a w2 C2 g2' H => nt ?_
      refine ⟨H.keep ⟨rfl, rfl, trivial⟩, ?_, M1.box g2' (Nat.le_refl g), hr.grown g2' (fun k e h => by injection e with e; exact absurd h.1 (by omega))⟩
      exact O1.turn 1 rfl g2' C2
  clear O1 M1 hr H
  obtain ⟨rs', hrs'⟩ : ∃ r, (x.rst || z4) = r := ⟨_, rfl⟩
  simp only [hrs']
  rintro a w2 ⟨H, O2, M2, hr2⟩
  obtain ⟨z1, hz1⟩ : ∃ z, (bits .and .i64 q.fl 1 != 0) = z := ⟨_, rfl⟩
  obtain ⟨fs, hfs⟩ : ∃ fs, (if (bits .and .i64 q.fl 1 != 0) = true then x.fins ++ [spAdd sq q.xs.length] else x.fins) = fs := ⟨_, rfl⟩
  refine wp_seq_join (fun a w' => ∃ vF', Has a 79 [(0, .pointer (some ⟨g, 0, none⟩)), (3, .pointer (some ⟨g3, 0, none⟩))] ∧ Own W B [(g3, sgL q (.slice A q.xs.length c)), (g, lstC ⟨true, x.nq, x.ps, x.b, rs', fs⟩ AP cP vB vF')] w' ∧ LstM g ⟨true, x.nq, x.ps, x.b, rs', fs⟩ AP vB vF' w' ∧ RBS w' (LstS g vB vF') A q.xs) ?_ ?_
  · refine H.rg 1 fun a H => ?_
    refine H.ld 0 (O2.li 0 4) fun a H => ?_
    refine H.bn 0 (and_bits q.fl 1 _ _ _) fun a H => ?_
    refine H.bb 0 rfl rfl rfl rfl rfl rfl (neq_3 (bits .and .i64 q.fl 1) 0 z1 hz1 _ _ _) rfl fun a H => nt ?_
    replace H := H.keep (l' := [(0, .pointer (some ⟨g, 0, none⟩)), (3, .pointer (some ⟨g3, 0, none⟩)), (38, .bool z1)]) ⟨rfl, rfl, rfl, trivial⟩
    cases z1 with
    | false =>
      rw [hz1, if_neg (by decide)] at hfs
      subst hfs
      refine H.condF rfl (skip_wp (then_normal ?_))
      exact ⟨vF, H.keep ⟨rfl, rfl, trivial⟩, O2, M2, hr2⟩
    | true =>
      rw [hz1, if_pos rfl] at hfs
      subst hfs
      refine H.condT rfl ?_
      have hsv := spanAdd sq q.xs.length (by omega) (by omega)
      rw [← hsq] at hsv
      obtain ⟨AF, cF, rfl, _, _⟩ := own_shape M2.2.1
      refine H.sg (HearF W B g g3 (sgL q (.slice A q.xs.length c)) ⟨true, x.nq, x.ps, x.b, rs', x.fins⟩ AP cP vB (.slice AF x.fins.length cF) A q.xs) (HearF.next ⟨O2, M2, hr2⟩ (Below.drew (Below.refl _ _))) [0, 3] [ec 0 39 (.pointer (some ⟨g, 0, none⟩)), ec 1 40 (.pointer (some ⟨g, 0, none⟩)), ec 2 41 (.pointer (some ⟨g, 0, none⟩)), ec 3 42 (.pointer (some ⟨g, 5, none⟩)), ec 4 43 (.slice AF x.fins.length cF), ec 5 44 (.pointer (some ⟨g3, 2, none⟩)), ec 6 45 (.int .i64 q.sq), ec 7 46 (.pointer (some ⟨g3, 6, none⟩)), ec 8 47 (.slice A q.xs.length c), ec 9 48 (.int .i64 (q.xs.length : Int)), ec 10 49 (natV (spAdd sq q.xs.length))] rfl ?_
      refine St.val 11 ⟨jm, jm, jm, jm, jl fun _ h => load1_26 _ _ _ _ _ _ ((h.1.get 1 rfl).get 5 _ rfl), jm, jl fun _ h => h.1.li 0 2, jm, jl fun _ h => load1_31 _ _ _ _ _ _ ((h.1.get 0 rfl).get 6 _ rfl), jn Try.underlying27, jq fun w' _ => hsv w', trivial⟩ ?_
      intro a wx H _ h
      refine ⟨.slice (some ⟨wx.heap.size, 0, none⟩) 1 1, wx.alloc (.cells #[natV (spAdd sq q.xs.length)] 3), run_any H (by intro cs b h; cases h) (by kernel_rfl) (by kernel_rfl), ?_⟩
      have hbx : Below wx.heap.size wx (wx.alloc (.cells #[natV (spAdd sq q.xs.length)] 3)) := balloc _ _
      have hl := Reads.lit wx 3 [natV (spAdd sq q.xs.length)] (0, 0) 1 1 rfl
      generalize wx.heap.size = gl at hl ⊢
      generalize wx.alloc (.cells #[natV (spAdd sq q.xs.length)] 3) = wy at hl hbx ⊢
      refine nx (fun w' => HearF W B g g3 (sgL q (.slice A q.xs.length c)) ⟨true, x.nq, x.ps, x.b, rs', x.fins⟩ AP cP vB (.slice AF x.fins.length cF) A q.xs w' ∧ Reads w' w'.heap.size 1 (some ⟨gl, 0, none⟩) 1 [natV (spAdd sq q.xs.length)]) [] [] ⟨HearF.next h hbx, hl⟩ ?_
      refine St.appF (k := x.fins.length) (m := 1) 12 info_fi ⟨jm, jm, jm, jm, jl fun _ h => load1_26 _ _ _ _ _ _ ((h.1.1.get 1 rfl).get 5 _ rfl), trivial⟩ (fun _ h => ⟨h.1.2.1.2.1, h.2, Nat.succ_le_of_lt (h.1.1.lt 1 rfl)⟩) (fun u hu => by rw [List.mem_singleton.1 hu]; rfl) ⟨by unfold maxLen; omega, by omega⟩ ?_
      intro wx A' c' w' h hO hg hfr
      have hfin := h.1.2.1.fin hO hg hfr
      have Or := h.1.1.row h.1.2.1.2.1 (Nat.le_succ_of_le (h.1.1.ge 1 rfl)) hg (by
        intro p hp
        simp only [List.mem_cons, List.not_mem_nil, or_false] at hp
        rcases hp with rfl | rfl
        · exact hF3
        · exact own_ne h.1.2.1.2.1 (.inl (Nat.lt_succ_self _)))
      refine nx (fun w' => Own W B [(g3, sgL q (.slice A q.xs.length c)), (g, lstC ⟨true, x.nq, x.ps, x.b, rs', x.fins⟩ AP cP vB (.slice AF x.fins.length cF))] w' ∧ LstM g ⟨true, x.nq, x.ps, x.b, rs', x.fins ++ [spAdd sq q.xs.length]⟩ AP vB (.slice A' (x.fins.length + 1) c') w' ∧ RBS w' (LstS g vB (.slice A' (x.fins.length + 1) c')) A q.xs) [ec 13 52 (.pointer (some ⟨g, 0, none⟩)), ec 14 53 (.pointer (some ⟨g, 5, none⟩))] [] ⟨Or, hfin, h.1.2.2.fin hg hfr⟩ ?_
      refine St.sto 15 ⟨jm, jm, jm, trivial⟩ ?_
      clear h hO hg hfr hfin Or H
      intro a wu H _ h
      obtain ⟨c1, c2⟩ := (h.1.get 1 rfl) 5 _ rfl
      refine ⟨_, run_store rfl (H.ev rfl) (H.ev rfl) (store1_is _ _ _ _ _ _ _ c1 c2), nx0 (HearF W B g g3 (sgL q (.slice A q.xs.length c)) ⟨true, x.nq, x.ps, x.b, rs', x.fins ++ [spAdd sq q.xs.length]⟩ AP cP vB (.slice A' (x.fins.length + 1) c') A q.xs) [] [] ⟨h.1.turn 1 rfl (grown_setCell _ _ _ _) ((h.1.get 1 rfl).set 5 _ (Nat.lt_succ_self 5)), h.2.1.box (grown_setCell _ _ _ _) (Nat.le_refl _), h.2.2.grown (grown_setCell _ _ _ _) (fun k e hS => by injection e with e; exact absurd hS.1 (by omega))⟩ (St.fin trivial ?_)⟩
      intro a w3 H _ h
      refine then_normal ⟨_, H.keep ⟨rfl, rfl, trivial⟩, h⟩
  clear H O2 M2 hr2
  rintro a w3 ⟨vF', H, O3, M3, hr3⟩
  have KK : ∀ wy, (HearF W B g g3 (sgL q (.slice A q.xs.length c)) ⟨true, x.nq, x.ps, x.b, rs', fs⟩ AP cP vB vF' A q.xs wy ∧ Below w3.heap.size w3 wy) → _ := fun wy h => reasmPut x.nq AP cP x.ps sq q.xs A c wy hq hsl hl hn hc h.1.2.1.2.2.at_ hps h.1.2.2.rb
  obtain ⟨AB, cB, rfl, _, _⟩ := own_shape M3.1
  refine H.sg (fun w' => HearF W B g g3 (sgL q (.slice A q.xs.length c)) ⟨true, x.nq, x.ps, x.b, rs', fs⟩ AP cP (.slice AB x.b.length cB) vF' A q.xs w' ∧ Below w3.heap.size w3 w') ⟨HearF.next ⟨O3, M3, hr3⟩ (Below.drew (Below.refl _ _)), Below.drew (Below.refl _ _)⟩ [0, 3] [ec 0 55 (.pointer (some ⟨g, 0, none⟩)), ec 1 56 (.pointer (some ⟨g, 0, none⟩)), ec 2 57 (.pointer (some ⟨g, 0, none⟩)), ec 3 58 (.agg ([.int .i64 (x.nq : Int), .slice AP x.ps.length cP] : List Value).toArray), ec 4 59 (.pointer (some ⟨g3, 2, none⟩)), ec 5 60 (.int .i64 (sq : Int)), ec 6 61 (.pointer (some ⟨g3, 6, none⟩)), ec 7 62 (.slice A q.xs.length c), er 12 4 [] (BoxQ w3.heap.size 49 [.int .i64 0, nilV])] rfl ?_
  refine St.call 8 ⟨jm, jm, jm, jl fun _ h => loadT (Cells.pre (l1 := [.int .i64 (x.nq : Int), .slice AP x.ps.length cP]) (h.1.1.get 1 rfl)) Try.underlying49 rfl size_buf rfl, jm, jl fun _ h => by rw [← hsq]; exact h.1.1.li 0 2, jm, jl fun _ h => load1_31 _ _ _ _ _ _ ((h.1.1.get 0 rfl).get 6 _ rfl), ka zero_buf fun _ h => h.2.size, trivial⟩ KK ?_ (hF := .inr fun _ _ h hb => ⟨h.1.next hb, h.2.trans (hb.mono h.2.size)⟩) (hst := ⟨fun _ _ _ hb h => h.below hb, trivial⟩)
  rintro wx v wz hh ⟨nq', ps', told, AP', c', A2, c2, rfl, hG, hP, ht, hb⟩
  have htl := (putG_tl hG)
  have hx3 := hh.2.size
  have hxz := hb.size
  have hBb : ∀ k, w3.heap.size ≤ k → some k ≠ (Value.slice AB x.b.length cB).ownBlock := fun k hk => own_ne M3.1 (.inr hk)
  have hLS : ∀ k, wx.heap.size ≤ k → LstS g (.slice AB x.b.length cB) vF' k := fun k hk => ⟨Nat.lt_of_lt_of_le (O3.lt 1 rfl) (Nat.le_trans hx3 hk), hBb k (Nat.le_trans hx3 hk), own_ne M3.2.1 (.inr (Nat.le_trans hx3 hk))⟩
  have hSP : ∀ k, k < wz.heap.size → SP wx.heap.size wz k → PutS g w3.heap.size wz (.slice AB x.b.length cB) vF' k := fun k hk h => ⟨hLS k h.1, .inr ⟨hk, h.2⟩⟩
  have hP' : PartsS wz (PutS g w3.heap.size wz (.slice AB x.b.length cB) vF') AP' ps' := by
    rcases hP with ⟨rfl, rfl⟩ | hP
    · exact ((M3.2.2.mono (S' := PutS g w3.heap.size wz (.slice AB x.b.length cB) vF') fun k hk h => ⟨h, .inl hk⟩).grown (below_grown hh.2 none) (fun k e => by cases e)).grown (below_grown hb none) (fun k e => by cases e)
    · exact hP.mono hSP
  have ht' := ht.mono hSP
  have hfin : HearG q sq x ⟨true, nq', ps', x.b ++ told, rs', fs⟩ := by
    unfold HearG
    rw [if_neg (by rw [hz2]; decide), if_neg (by rw [hup]; decide)]
    exact ⟨nq', ps', told, hG, by rw [hz4, hrs', hfs]⟩
  have hg34 : g < w3.heap.size ∧ g3 < w3.heap.size := ⟨O3.lt 1 rfl, O3.lt 0 rfl⟩
  have hgB := O3.ge 1 rfl
  have hF3' : some g3 ≠ (Value.slice AB x.b.length cB).ownBlock := hB3
  refine nx (fun w' => PutF W B g [(g3, sgL q (.slice A q.xs.length c)), (g, lstC ⟨true, x.nq, x.ps, x.b, rs', fs⟩ AP cP (.slice AB x.b.length cB) vF')] x.b fs (.slice AB x.b.length cB) vF' (PutS g w3.heap.size wz (.slice AB x.b.length cB) vF') ps' AP' told A2 w' ∧ Below wz.heap.size wz w') [ec 9 54 (.tuple #[.agg ([.int .i64 (nq' : Nat), .slice AP' ps'.length c'] : List Value).toArray, .slice A2 told.length c2]), ec 10 64 (.agg ([.int .i64 (nq' : Nat), .slice AP' ps'.length c'] : List Value).toArray), ec 11 65 (.slice A2 told.length c2)] [] ⟨⟨hh.1.1.call hb, ⟨own_below hh.1.2.1.1 hb, own_below hh.1.2.1.2.1 hb⟩, hP', ht'⟩, Below.refl _ _⟩ ?_ (hk := StabAll.keeps hb ⟨fun _ _ _ hb h => h.below hb, trivial⟩)
  refine St.sto 13 ⟨jm, jx, jx, ka zero_buf fun _ h => Nat.le_trans (Nat.le_trans hx3 hxz) h.2.size, trivial⟩ ?_ (hF := .inr fun _ _ h hb => ⟨h.1.next hb, h.2.trans (hb.mono h.2.size)⟩) (hst := ⟨fun _ _ _ hb h => h.below hb, trivial⟩)
  rintro a wu H ⟨⟨g4, e4, hg1, hg2, hC, hTy⟩, _⟩ h
  obtain ⟨w', hr', hgr, hs', hC'⟩ := hC.sto (L := [.int .i64 (nq' : Nat), .slice AP' ps'.length c']) size_buf rfl rfl rfl
  have hno : ¬ PutS g w3.heap.size wz (.slice AB x.b.length cB) vF' g4 := by
    rintro ⟨_, h5 | ⟨h5, h6⟩⟩
    · omega
    · obtain ⟨l, fr, hh4⟩ := hTy
      exact h6 ⟨l, fr, ((below_grown h.2 none).block g4 h5 (by simp)).symm.trans hh4⟩
  have O4 := h.1.1.addq hgr (by omega) hg2 (by
    intro p hp
    simp only [List.mem_cons, List.not_mem_nil, or_false] at hp
    rcases hp with rfl | rfl
    · show g3 ≠ g4; omega
    · show g ≠ g4; omega) hC'
  have hS4 : ∀ k, PutS g w3.heap.size wz (.slice AB x.b.length cB) vF' k → LstS g (.slice AB x.b.length cB) vF' k ∧ k ≠ g4 := fun k hk => ⟨hk.1, fun e => hno (e ▸ hk)⟩
  refine ⟨w', run_store rfl e4 (H.ev rfl) hr', nxp (PutF W B g [(g4, [.int .i64 (nq' : Nat), .slice AP' ps'.length c']), (g3, sgL q (.slice A q.xs.length c)), (g, lstC ⟨true, x.nq, x.ps, x.b, rs', fs⟩ AP cP (.slice AB x.b.length cB) vF')] x.b fs (.slice AB x.b.length cB) vF' (fun k => LstS g (.slice AB x.b.length cB) vF' k ∧ k ≠ g4) ps' AP' told A2) [ec 12 4 (.pointer (some ⟨g4, 0, none⟩))] [ec 14 5 (.slice A2 told.length c2)] [12] ⟨O4, ⟨h.1.2.1.1.kept hgr (.inr (hBb g4 hg1).symm), h.1.2.1.2.kept hgr (.inr (own_ne M3.2.1 (.inr hg1)).symm)⟩, (h.1.2.2.1.grown hgr (fun k e hS => by injection e with e; subst e; exact hno hS)).mono fun k _ hk => hS4 k hk, (h.1.2.2.2.grown hgr (fun k e hS => by injection e with e; subst e; exact hno hS)).mono fun k _ hk => hS4 k hk⟩ ⟨⟨rfl, rfl, _, rfl, e4⟩, trivial⟩ ?_⟩
  refine St.fin ⟨jm, jx, trivial⟩ ?_ (hF := .inl rfl)
  clear h O4 hr' hgr hs' hC' hC hTy e4 H hS4 hno hP' ht' hSP hLS hh ht hb hP
  intro a w4 H _ F4
  refine then_normal ?_
  replace H := H.keep (l' := [(0, .pointer (some ⟨g, 0, none⟩)), (4, .pointer (some ⟨g4, 0, none⟩)), (5, .slice A2 told.length c2)]) ⟨rfl, rfl, rfl, trivial⟩
  refine H.sg (PutF W B g [(g4, [.int .i64 (nq' : Nat), .slice AP' ps'.length c']), (g3, sgL q (.slice A q.xs.length c)), (g, lstC ⟨true, x.nq, x.ps, x.b, rs', fs⟩ AP cP (.slice AB x.b.length cB) vF')] x.b fs (.slice AB x.b.length cB) vF' (fun k => LstS g (.slice AB x.b.length cB) vF' k ∧ k ≠ g4) ps' AP' told A2) (F4.next (Below.drew (Below.refl _ _))) [0, 4, 5] [ec 0 66 (.pointer (some ⟨g, 0, none⟩)), ec 1 67 (.pointer (some ⟨g, 0, none⟩)), ec 2 68 (.agg ([.int .i64 (nq' : Nat), .slice AP' ps'.length c'] : List Value).toArray), ec 3 69 (.pointer (some ⟨g, 0, none⟩)), ec 4 70 (.pointer (some ⟨g, 0, none⟩)), ec 5 71 (.pointer (some ⟨g, 3, none⟩)), ec 6 72 (.slice AB x.b.length cB), ec 7 73 (.slice A2 told.length c2)] rfl ?_
  refine St.appF (k := x.b.length) (m := told.length) 8 info_u8 ⟨jm, jm, jl fun _ h => loadT (h.1.get 0 rfl) Try.underlying49 rfl size_buf rfl, jm, jm, jm, jl fun _ h => load1_31 _ _ _ _ _ _ ((h.1.get 2 rfl).get 3 _ rfl), jm, trivial⟩ (fun _ h => ⟨h.2.1.1, h.2.2.2.rb, Nat.succ_le_of_lt (h.1.lt 2 rfl)⟩) (bv_one told) ⟨by unfold maxLen; omega, by omega⟩ ?_
  intro wv A' c3 w' h hO hg hfr
  have hSq : ∀ k, k < wv.heap.size → LstS g (.slice AB x.b.length cB) vF' k ∧ k ≠ g4 → LstS g (.slice A' (x.b.length + told.length) c3) vF' k := fun k hk hS => LstS.turnB hfr ⟨hS.1, hk⟩
  have hP5 : PartsS w' (LstS g (.slice A' (x.b.length + told.length) c3) vF') AP' ps' := ((h.2.2.1.mono (S' := fun k => LstS g (.slice AB x.b.length cB) vF' k ∧ k < wv.heap.size) (fun _ hk hS => ⟨hS.1, hk⟩)).grown hg (fun k e hS => hS.1.2.1 e.symm)).mono fun _ _ hS => LstS.turnB hfr hS
  have O5 := h.1.row h.2.1.1 (Nat.le_succ_of_le hgB) hg (by
    intro p hp
    simp only [List.mem_cons, List.not_mem_nil, or_false] at hp
    rcases hp with rfl | rfl | rfl
    · exact hBb g4 hg1
    · exact hF3'
    · exact own_ne h.2.1.1 (.inl (Nat.lt_succ_self _)))
  have hF5 := h.2.1.2.kept hg (own_apart h.2.1.2 h.2.1.1 rfl)
  rw [← List.map_append] at hO
  refine nx (fun w' => (Own W B [(g4, [.int .i64 (nq' : Nat), .slice AP' ps'.length c']), (g3, sgL q (.slice A q.xs.length c)), (g, lstC ⟨true, x.nq, x.ps, x.b, rs', fs⟩ AP cP (.slice AB x.b.length cB) vF')] w' ∧ PartsS w' (LstS g (.slice A' (x.b.length + told.length) c3) vF') AP' ps') ∧ w'.ownsRow (g + 1) 5 1 (.slice A' (x.b.length + told.length) c3) (x.b.length + told.length) ((x.b ++ told).map bv) ∧ w'.ownsRow (g + 1) 3 1 vF' fs.length (fs.map natV)) [ec 9 75 (.pointer (some ⟨g, 0, none⟩)), ec 10 76 (.pointer (some ⟨g, 0, none⟩))] [] ⟨⟨O5, hP5⟩, hO, hF5⟩ ?_
  clear h hO hg hfr hP5 O5 hF5 hSq
  refine St.sto 11 ⟨jm, jm, jm, jm, jl fun _ h => loadT (h.1.1.get 0 rfl) Try.underlying49 rfl size_buf rfl, trivial⟩ ?_
  rintro a wu H _ ⟨⟨O6, P6⟩, B6, F6⟩
  obtain ⟨w', hr', hgr, hC'⟩ := store_buf (a := .int .i64 (nq' : Nat)) (b := .slice AP' ps'.length c') (O6.get 2 rfl) rfl
  refine ⟨w', run_store rfl (H.ev rfl) (H.ev rfl) hr', nx0 (fun w' => (Own W B [(g4, [.int .i64 (nq' : Nat), .slice AP' ps'.length c']), (g3, sgL q (.slice A q.xs.length c)), (g, lstC ⟨true, nq', ps', x.b, rs', fs⟩ AP' c' (.slice AB x.b.length cB) vF')] w' ∧ PartsS w' (LstS g (.slice A' (x.b.length + told.length) c3) vF') AP' ps') ∧ w'.ownsRow (g + 1) 5 1 (.slice A' (x.b.length + told.length) c3) (x.b.length + told.length) ((x.b ++ told).map bv) ∧ w'.ownsRow (g + 1) 3 1 vF' fs.length (fs.map natV)) [ec 12 77 (.pointer (some ⟨g, 0, none⟩)), ec 13 78 (.pointer (some ⟨g, 3, none⟩))] [] ⟨⟨O6.turn 2 rfl hgr hC', P6.grown hgr (fun k e hS => by injection e with e; exact absurd hS.1 (by omega))⟩, B6.kept hgr (.inr (own_ne B6 (.inl (Nat.lt_succ_self g))).symm), F6.kept hgr (.inr (own_ne F6 (.inl (Nat.lt_succ_self g))).symm)⟩ ?_⟩
  clear O6 P6 B6 F6 hr' hgr hC'
  refine St.sto 14 ⟨jm, jm, jm, trivial⟩ ?_
  rintro a wu H _ ⟨⟨O6, P6⟩, B6, F6⟩
  obtain ⟨c1, c2⟩ := (O6.get 2 rfl) 3 _ rfl
  refine ⟨_, run_store rfl (H.ev rfl) (H.ev rfl) (store1_31 g 3 _ _ _ _ _ c1 c2), nx0 (fun w' => (Own W B [(g4, [.int .i64 (nq' : Nat), .slice AP' ps'.length c']), (g3, sgL q (.slice A q.xs.length c)), (g, lstC ⟨true, nq', ps', x.b ++ told, rs', fs⟩ AP' c' (.slice A' (x.b.length + told.length) c3) vF')] w' ∧ PartsS w' (LstS g (.slice A' (x.b.length + told.length) c3) vF') AP' ps') ∧ w'.ownsRow (g + 1) 5 1 (.slice A' (x.b.length + told.length) c3) (x.b.length + told.length) ((x.b ++ told).map bv) ∧ w'.ownsRow (g + 1) 3 1 vF' fs.length (fs.map natV)) [] [] ⟨⟨O6.turn 2 rfl (grown_setCell _ _ _ _) ((O6.get 2 rfl).set 3 _ (Nat.lt_of_sub_pos (Nat.succ_pos 2))), P6.grown (grown_setCell _ _ _ _) (fun k e hS => by injection e with e; exact absurd hS.1 (by omega))⟩, B6.kept (grown_setCell _ _ _ _) (.inr (own_ne B6 (.inl (Nat.lt_succ_self g))).symm), F6.kept (grown_setCell _ _ _ _) (.inr (own_ne F6 (.inl (Nat.lt_succ_self g))).symm)⟩ (St.fin trivial ?_)⟩
  rintro a w9 H _ ⟨⟨O9, P9⟩, B9, F9⟩
  refine bodyPost_end (results_none rfl _ _ _) H.df ⟨rfl, ⟨true, nq', ps', x.b ++ told, rs', fs⟩, AP', c', .slice A' (x.b.length + told.length) c3, vF', hfin, drop1 (drop1 O9), ?_, F9, P9⟩
  show w9.ownsRow (g + 1) 5 1 _ (x.b ++ told).length _
  rw [List.length_append]
  exact B9
theorem hearC (W : World) (B g : Nat) (x : Lst) (AP : Option Addr) (cP : Nat) (vB vF : Value) (q : Sg) (sq : Nat) (hsq : q.sq = (sq : Int)) (hsl : sq ≤ 4294967295) (A : Option Addr) (c : Nat) (w : World) (O : Own W B [(g, lstC x AP cP vB vF)] w) (M : LstM g x AP vB vF w) (hr : RBS w (LstS g vB vF) A q.xs) (hc : q.xs.length ≤ c)
    (hn : q.xs.length ≤ 65536) (hq : x.nq ≤ 4294967295) (hl : x.ps.length ≤ 100000) (hps : ∀ p ∈ x.ps, p.1 ≤ 4294967295 ∧ 0 ≤ spDiff p.1 x.nq ∧ spDiff p.1 x.nq + (p.2.length : Int) ≤ 2048) (hbl : x.b.length ≤ 1000000000) (hfl : x.fins.length ≤ 1000000000) :
    Calls Try.prog 15 #[.pointer (some ⟨g, 0, none⟩), .agg (sgL q (.slice A q.xs.length c)).toArray] w fun e w' => ∃ v, e = .returned v ∧ ∃ x' AP' cP' vB' vF', HearG q sq x x' ∧ Own W B [(g, lstC x' AP' cP' vB' vF')] w' ∧ LstM g x' AP' vB' vF' w' :=
  (hearW W B g x AP cP vB vF q sq hsq hsl A c w O M hr hc hn hq hl hps hbl hfl).mono fun _ _ ⟨h1, h2⟩ => ⟨_, h1, h2⟩
end Go.Proofs.Ytlacidnnankjlaa

/-
  What a listener has heard of frames, in plain Lean.
-/
namespace Go.Proofs.Ytlacidnnankjlaa

/-- the segment that a frame carries from the kernel to a port. -/
def toldTo (ti port : Int) (b : List UInt8) : Option Sg :=
  match segIn b with
  | some (p, q) => if p.s = 167772161 ∧ p.d = ti ∧ q.sp = 1883 ∧ q.dp = port then some q else none
  | none => none
inductive Heard (ti port : Int) : List (List UInt8) → Lst → Lst → Prop
  | nil {x : Lst} : Heard ti port [] x x
  | skip {b : List UInt8} {l : List (List UInt8)} {x y : Lst} (h1 : toldTo ti port b = none) (h : Heard ti port l x y) : Heard ti port (b :: l) x y
  | take {b : List UInt8} {l : List (List UInt8)} {q : Sg} {x x1 y : Lst} (h1 : toldTo ti port b = some q) (h2 : HearG q q.sq.toNat x x1) (h : Heard ti port l x1 y) : Heard ti port (b :: l) x y
section
variable {ti port : Int} {b : List UInt8} {l : List (List UInt8)} {q : Sg} {x y z : Lst}
theorem Heard.none (h : Heard ti port (b :: l) x y) (hn : toldTo ti port b = none) : Heard ti port l x y := by
  cases h with
  | skip _ h => exact h
  | take h1 => rw [hn] at h1; cases h1
theorem Heard.some (h : Heard ti port (b :: l) x y) (hs : toldTo ti port b = some q) : ∃ x1, HearG q q.sq.toNat x x1 ∧ Heard ti port l x1 y := by
  cases h with
  | skip h1 => rw [hs] at h1; cases h1
  | take h1 h2 h =>
    rw [hs] at h1
    injection h1 with h1
    subst h1
    exact ⟨_, h2, h⟩
theorem Heard.end_ (h : Heard ti port [] x y) : x = y := by cases h; rfl
theorem Heard.append {l' : List (List UInt8)} (h : Heard ti port l x y) (h' : Heard ti port l' y z) : Heard ti port (l ++ l') x z := by
  induction h with
  | nil => exact h'
  | skip h1 _ ih => exact .skip h1 (ih h')
  | take h1 h2 _ ih => exact .take h1 h2 (ih h')
end
/-- a listener as it may be, behind n frames. -/
def LstOk (n : Nat) (x : Lst) : Prop := x.nq ≤ 4294967295 ∧ x.ps.length ≤ 8 ∧ PsOk x.nq x.ps ∧ x.b.length ≤ 2048 * n ∧ x.fins.length ≤ n
theorem LstOk.zero : LstOk 0 Lst.zero := ⟨by decide, by decide, fun p hp => (by cases hp), by decide, by decide⟩
theorem LstOk.more {n m : Nat} {x : Lst} (h : LstOk n x) (hm : n ≤ m) : LstOk m x := ⟨h.1, h.2.1, h.2.2.1, by have := h.2.2.2.1; omega, by have := h.2.2.2.2; omega⟩
theorem hear_ok {n sq : Nat} {q : Sg} {x x' : Lst} (h : HearG q sq x x') (hx : LstOk n x) : LstOk (n + 1) x' := by
  unfold HearG at h
  split at h
  · subst h
    exact ⟨by have := spAdd_lt sq 1; show spAdd sq 1 ≤ _; omega, by simp, fun p hp => (by cases hp), by simp, by simp⟩
  split at h
  · subst h
    exact hx.more (Nat.le_succ _)
  · obtain ⟨nq', ps', told, hp, rfl⟩ := h
    obtain ⟨h1, h2, h3, h4⟩ := putG_ok hp hx.1 hx.2.1 hx.2.2.1
    refine ⟨h1, h2, h3, ?_, ?_⟩
    · have := hx.2.2.2.1
      simp only [List.length_append]
      omega
    · have := hx.2.2.2.2
      show (if _ then _ else _ : List Nat).length ≤ _
      split
      · simp only [List.length_append, List.length_singleton]; omega
      · omega
/-- one run of bytes in a window. -/
theorem runs_at {m : List (Option UInt8)} {a : Nat} {xs : List UInt8} (hm : m.length = 2048) (h0 : 0 < xs.length) (hl : a + xs.length ≤ 2048) (h : ∀ j, j < 2048 → m[j]? = some (if a ≤ j then xs[j - a]? else none)) : Runs m 0 [(a, xs)] := by
  refine .run (b := a + xs.length) (Nat.zero_le _) ?_ (by omega) (by omega) ?_ (by omega) ?_ (.done ?_)
  · intro j _ hj
    rw [h j (by omega), if_neg (by omega)]
  · intro j h1 h2
    refine ⟨xs[j - a]'(by omega), ?_, List.getElem?_eq_getElem _⟩
    rw [h j (by omega), if_pos h1, List.getElem?_eq_getElem (by omega)]
  · rcases Nat.lt_or_ge (a + xs.length) 2048 with h1 | h1
    · refine .inr ?_
      rw [h _ h1, if_pos (Nat.le_add_right _ _), List.getElem?_eq_none (by omega)]
    · exact .inl (by omega)
  · intro j h1 h2
    rw [h j (by omega), if_pos (by omega), List.getElem?_eq_none (by omega)]
theorem win0_get (j : Nat) (h : j < 2048) : win0[j]? = some none := by
  unfold win0
  rw [List.getElem?_replicate, if_pos h]
theorem wi_whole {d : Int} {xs : List UInt8} (h0 : 0 ≤ d) (h1 : d + (xs.length : Int) ≤ 2048) : wiTake d xs = xs := by
  unfold wiTake
  split
  · have : xs.length = 0 := by omega
    rw [List.length_eq_zero_iff.1 this]
  · rw [show (max d 0 - d).toNat = 0 by omega, List.drop_zero, List.take_of_length_le (by omega)]
section
variable {nq : Nat} {sq : Nat} {xs : List UInt8} {nq' : Nat} {ps' : List (Nat × List UInt8)} {told : List UInt8}
/-- nothing is there, and bytes come some way ahead. -/
theorem put_one {d : Nat} (h : PutG nq [] sq xs nq' ps' told) (hq : nq ≤ 4294967295) (hsq : spDiff sq nq = d) (h0 : 0 < xs.length) (hl : d + xs.length ≤ 2048) :
    if d = 0 then nq' = spAdd nq xs.length ∧ ps' = [] ∧ told = xs else nq' = nq ∧ ps' = [(spAdd nq d, xs)] ∧ told = [] := by
  have hw : wiTake (spDiff sq nq) xs = xs := wi_whole (by omega) (by omega)
  have ha : wiAt (spDiff sq nq) = d := by rw [hsq]; unfold wiAt; omega
  have hR : Runs (layG (layP nq win0 []) d xs) 0 [(d, xs)] := by
    refine runs_at (by rw [layG_len, layP_len, win0_len]) h0 hl fun j hj => ?_
    rw [layG_get]
    show (if d ≤ j ∧ j < d + xs.length ∧ win0[j]? = some none then some (xs[j - d]?) else win0[j]?) = _
    rw [win0_get j hj]
    by_cases h1 : d ≤ j
    · rw [if_pos h1]
      by_cases h2 : j < d + xs.length
      · rw [if_pos ⟨h1, h2, rfl⟩]
      · rw [if_neg (fun h => h2 h.2.1), List.getElem?_eq_none (by omega)]
    · rw [if_neg h1, if_neg (fun h => h1 h.1)]
  rw [PutG, hw, ha] at h
  rcases h with ⟨h, _⟩ | ⟨_, l, hl', h⟩
  · rw [h] at h0; cases h0
  have := runs_one hl' hR
  subst this
  have hz : (spAdd nq d == nq) = decide (d = 0) := by
    have := spAdd_self (p := d) hq (by omega)
    rw [Bool.eq_iff_iff, beq_iff_eq, decide_eq_true_iff, this]
  rw [putNext_c, putRest_c, putTold_c, hz] at h
  by_cases hd : d = 0
  · rw [if_pos hd]
    rw [decide_eq_true hd] at h
    rcases h with ⟨h8, _⟩ | ⟨_, h1, h2, h3⟩
    · cases h8
    · exact ⟨h1, h2, h3⟩
  · rw [if_neg hd]
    rw [decide_eq_false hd] at h
    rcases h with ⟨h8, _⟩ | ⟨_, h1, h2, h3⟩
    · exact absurd h8 (by show ¬ 8 < 1; decide)
    · exact ⟨h1, h2, h3⟩
/-- what lacked comes: all is told. -/
theorem put_two {ys : List UInt8} (h : PutG nq [(spAdd nq xs.length, ys)] nq xs nq' ps' told) (hq : nq ≤ 4294967295) (h0 : 0 < xs.length) (hl : xs.length + ys.length ≤ 2048) : nq' = spAdd nq (xs.length + ys.length) ∧ ps' = [] ∧ told = xs ++ ys := by
  have hd : spDiff nq nq = 0 := by
    have := spDiff_self (a := nq) (p := 0) hq (by decide)
    rw [spAdd_id hq] at this
    exact this
  have hdy := spDiff_self (a := nq) (p := xs.length) hq (by omega)
  have hw : wiTake (spDiff nq nq) xs = xs := wi_whole (by omega) (by omega)
  have ha : wiAt (spDiff nq nq) = 0 := by rw [hd]; rfl
  have hR : Runs (layG (layP nq win0 [(spAdd nq xs.length, ys)]) 0 xs) 0 [(0, xs ++ ys)] := by
    refine runs_at (by rw [layG_len, layP_len, win0_len]) (by rw [List.length_append]; omega) (by rw [List.length_append]; omega) fun j hj => ?_
    have hp : layP nq win0 [(spAdd nq xs.length, ys)] = layG win0 xs.length ys := by
      show layG win0 (spDiff (spAdd nq xs.length) nq).toNat ys = _
      rw [hdy]
      rfl
    rw [hp, layG_get, layG_get, win0_get j hj, if_pos (Nat.zero_le _), Nat.sub_zero]
    by_cases h1 : j < xs.length
    · rw [if_neg (show ¬ (xs.length ≤ j ∧ j < xs.length + ys.length ∧ some (none : Option UInt8) = some none) by omega), if_pos ⟨Nat.zero_le _, by omega, rfl⟩, List.getElem?_append_left h1]
    · rw [List.getElem?_append_right (by omega)]
      by_cases h2 : j < xs.length + ys.length
      · rw [if_neg (fun h => h1 (by have := h.2.1; omega)), if_pos ⟨by omega, h2, rfl⟩]
      · rw [if_neg (fun h => h1 (by have := h.2.1; omega)), if_neg (fun h => h2 h.2.1), List.getElem?_eq_none (by omega)]
  rw [PutG, hw, ha] at h
  rcases h with ⟨h, _⟩ | ⟨_, l, hl', h⟩
  · rw [h] at h0; cases h0
  have := runs_one hl' hR
  subst this
  have hz : (spAdd nq 0 == nq) = true := by rw [spAdd_id hq]; exact beq_self_eq_true _
  rw [putNext_c, putRest_c, putTold_c, hz] at h
  rcases h with ⟨h8, _⟩ | ⟨_, h1, h2, h3⟩
  · cases h8
  · rw [cond_true, List.length_append] at h1
    exact ⟨h1, h2, h3⟩
end
/-- a frame with a segment is told to whom it is for. -/
theorem wire_in {dm sm src dst : Nat} {q : Sg} (hdm : dm < 281474976710656) (hsm : sm < 281474976710656) (hs : src < 4294967296) (hd : dst < 4294967296) (h : q.ok = true) : segIn (wire dm sm src dst q) = some (⟨src, dst, 6, 64, 0, Sg.bytes src dst q⟩, q) := by
  have hq := (Sg.ok_iff.1 h).2.2.2.2.2.2
  have hp := parse_back ⟨src, dst, 6, 64, 0, Sg.bytes src dst q⟩ (wire_ip hs hd hq) []
  rw [List.append_nil] at hp
  unfold segIn
  rw [wire_fr hdm hsm h]
  simp only [hp, seg_same src dst hs hd q h]
  simp
theorem told_wire {dm sm dst : Nat} {q : Sg} (ti port : Int) (hdm : dm < 281474976710656) (hsm : sm < 281474976710656) (hd : dst < 4294967296) (h : q.ok = true) (hp : q.sp = 1883) : toldTo ti port (wire dm sm 167772161 dst q) = if (dst : Int) = ti ∧ q.dp = port then some q else none := by
  unfold toldTo
  rw [wire_in hdm hsm (by decide) hd h]
  show (if ((167772161 : Nat) : Int) = 167772161 ∧ (dst : Int) = ti ∧ q.sp = 1883 ∧ q.dp = port then some q else none) = _
  by_cases hc : (dst : Int) = ti ∧ q.dp = port
  · rw [if_pos hc, if_pos ⟨rfl, hc.1, hp, hc.2⟩]
  · rw [if_neg hc, if_neg (fun h => hc ⟨h.2.1, h.2.2.2⟩)]
end Go.Proofs.Ytlacidnnankjlaa

/-
  What a listener has heard of the frames of a law, in plain Lean.
-/
namespace Go.Proofs.Ytlacidnnankjlaa

/-- a frame of the law. -/
def fr27 (d port sq fl : Nat) (xs : List UInt8) : List UInt8 := wire 3 2199023255553 167772161 d ⟨1883, port, sq, 0, fl, 0, xs⟩
def sg27 (port sq fl : Nat) (xs : List UInt8) : Sg := ⟨1883, port, sq, 0, fl, 0, xs⟩
theorem sg27_ok {port sq fl : Nat} {xs : List UInt8} (hp : port ≤ 65535) (hs : sq ≤ 4294967295) (hf : fl ≤ 63) (hx : xs.length ≤ 1460) : (sg27 port sq fl xs).ok = true := by
  refine Sg.ok_iff.2 ⟨?_, ?_, ?_, ?_, ?_, ?_, hx⟩ <;> simp only [sg27] <;> omega
theorem told_fr {d port sq fl : Nat} {xs : List UInt8} (hd : d < 4294967296) (hp : port ≤ 65535) (hs : sq ≤ 4294967295) (hf : fl ≤ 63) (hx : xs.length ≤ 1460) : toldTo 5 6 (fr27 d port sq fl xs) = if (d : Int) = 5 ∧ (port : Int) = 6 then some (sg27 port sq fl xs) else none :=
  told_wire 5 6 (by decide) (by decide) hd (sg27_ok hp hs hf hx) rfl
theorem told_yes {sq fl : Nat} {xs : List UInt8} (hs : sq ≤ 4294967295) (hf : fl ≤ 63) (hx : xs.length ≤ 1460) : toldTo 5 6 (fr27 5 6 sq fl xs) = some (sg27 6 sq fl xs) := by
  rw [told_fr (by decide) (by decide) hs hf hx, if_pos ⟨rfl, rfl⟩]
theorem wiTake_nil (d : Int) : wiTake d [] = [] := by
  unfold wiTake
  split <;> simp
section
variable {sq : Nat} {xs : List UInt8} {x x' : Lst}
theorem hear_off (h : HearG (sg27 6 sq 16 xs) sq x x') (hx : x.up = false) : x' = x := by
  unfold HearG at h
  rw [if_neg (by show ¬ (bits .and .i64 16 2 != 0) = true; decide), if_pos hx] at h
  exact h
theorem hear_syn (h : HearG (sg27 6 sq 18 xs) sq x x') : x' = ⟨true, spAdd sq 1, [], [], false, []⟩ := by
  unfold HearG at h
  rw [if_pos (by show (bits .and .i64 18 2 != 0) = true; decide)] at h
  exact h
theorem hear_dat (h : HearG (sg27 6 sq 16 xs) sq x x') (hx : x.up = true) : ∃ nq' ps' told, PutG x.nq x.ps sq xs nq' ps' told ∧ x' = ⟨true, nq', ps', x.b ++ told, x.rst, x.fins⟩ := by
  unfold HearG at h
  rw [if_neg (by show ¬ (bits .and .i64 16 2 != 0) = true; decide), if_neg (by rw [hx]; decide)] at h
  obtain ⟨nq', ps', told, hp, rfl⟩ := h
  refine ⟨nq', ps', told, hp, ?_⟩
  have e : (bits .and .i64 (sg27 6 sq 16 xs).fl 4 != 0) = false := by show (bits .and .i64 16 4 != 0) = false; decide
  rw [e, Bool.or_false, if_neg (by show ¬ (bits .and .i64 16 1 != 0) = true; decide)]
theorem hear_rst (h : HearG (sg27 6 sq 20 []) sq x x') (hx : x.up = true) : x' = ⟨true, x.nq, x.ps, x.b, true, x.fins⟩ := by
  unfold HearG at h
  rw [if_neg (by show ¬ (bits .and .i64 20 2 != 0) = true; decide), if_neg (by rw [hx]; decide)] at h
  obtain ⟨nq', ps', told, hp, rfl⟩ := h
  have e : (bits .and .i64 (sg27 6 sq 20 []).fl 4 != 0) = true := by show (bits .and .i64 20 4 != 0) = true; decide
  rw [e, Bool.or_true, if_neg (by show ¬ (bits .and .i64 20 1 != 0) = true; decide)]
  rcases hp with ⟨_, rfl, rfl, rfl⟩ | ⟨h, _⟩
  · rw [List.append_nil]
  · exact absurd (wiTake_nil _) h
theorem hear_fin (h : HearG (sg27 6 sq 17 xs) sq x x') (hx : x.up = true) : ∃ nq' ps' told, PutG x.nq x.ps sq xs nq' ps' told ∧ x' = ⟨true, nq', ps', x.b ++ told, x.rst, x.fins ++ [spAdd sq xs.length]⟩ := by
  unfold HearG at h
  rw [if_neg (by show ¬ (bits .and .i64 17 2 != 0) = true; decide), if_neg (by rw [hx]; decide)] at h
  obtain ⟨nq', ps', told, hp, rfl⟩ := h
  refine ⟨nq', ps', told, hp, ?_⟩
  have e : (bits .and .i64 (sg27 6 sq 17 xs).fl 4 != 0) = false := by show (bits .and .i64 17 4 != 0) = false; decide
  rw [e, Bool.or_false, if_pos (by show (bits .and .i64 17 1 != 0) = true; decide)]
  rfl
end
theorem put_now {nq : Nat} {xs : List UInt8} {nq' : Nat} {ps' : List (Nat × List UInt8)} {told : List UInt8} (h : PutG nq [] nq xs nq' ps' told) (hq : nq ≤ 4294967295) (h0 : 0 < xs.length) (hl : xs.length ≤ 2048) : nq' = spAdd nq xs.length ∧ ps' = [] ∧ told = xs := by
  have hd : spDiff nq nq = 0 := by
    have := spDiff_self (a := nq) (p := 0) hq (by decide)
    rw [spAdd_id hq] at this
    exact this
  have := put_one (d := 0) h hq hd h0 (by omega)
  rw [if_pos rfl] at this
  exact this
abbrev one27 : List UInt8 := [111, 110, 101]
def fs27 (s : Nat) : List (List UInt8) := [fr27 5 6 1 16 [97, 104, 101, 97, 100], fr27 5 6 s 18 [], fr27 5 6 (spAdd s 1) 16 one27, fr27 5 7 (spAdd s 4) 16 [120], fr27 4 6 (spAdd s 4) 4 []]
def fr27b (s : Nat) : List UInt8 := fr27 5 6 (spAdd s 4) 20 []
def fs27c : List (List UInt8) := [fr27 5 6 70 18 [], fr27 5 6 72 17 [98], fr27 5 6 71 16 [97]]
theorem heard1 {s : Nat} (hs : s ≤ 4294967295) {l : List (List UInt8)} {x : Lst} (h : Heard 5 6 (fs27 s ++ l) .zero x) : Heard 5 6 l ⟨true, spAdd (spAdd s 1) 3, [], one27, false, []⟩ x := by
  have hq := spAdd_lt s 1
  have hq4 := spAdd_lt s 4
  obtain ⟨x1, g1, h⟩ := h.some (told_yes (by decide) (by decide) (by decide))
  have e1 := hear_off g1 rfl
  subst e1
  obtain ⟨x2, g2, h⟩ := h.some (told_yes hs (by decide) (by decide))
  have e2 := hear_syn (sq := s) g2
  subst e2
  obtain ⟨x3, g3, h⟩ := h.some (told_yes (by omega) (by decide) (by decide))
  obtain ⟨nq', ps', told, hp, e3⟩ := hear_dat (sq := spAdd s 1) g3 rfl
  subst e3
  obtain ⟨rfl, rfl, rfl⟩ := put_now hp (by show spAdd s 1 ≤ _; omega) (by decide) (by decide)
  have h := h.none (by rw [told_fr (by decide) (by decide) (by omega) (by decide) (by decide), if_neg (by decide)])
  have h := h.none (by rw [told_fr (by decide) (by decide) (by omega) (by decide) (by decide), if_neg (by decide)])
  exact h
theorem heard2 {s n : Nat} (_hs : s ≤ 4294967295) {l : List (List UInt8)} {x : Lst} (h : Heard 5 6 (fr27b s :: l) ⟨true, n, [], one27, false, []⟩ x) : Heard 5 6 l ⟨true, n, [], one27, true, []⟩ x := by
  have hq4 := spAdd_lt s 4
  obtain ⟨x1, g1, h⟩ := h.some (told_yes (by omega) (by decide) (by decide))
  have e1 := hear_rst (sq := spAdd s 4) g1 rfl
  subst e1
  exact h
theorem heard3 {y x : Lst} (h : Heard 5 6 fs27c y x) : x.b = [97, 98] ∧ (x.rst || decide (x.nq ∈ x.fins)) = true := by
  obtain ⟨x1, g1, h⟩ := h.some (told_yes (by decide) (by decide) (by decide))
  have e1 := hear_syn (sq := 70) g1
  subst e1
  obtain ⟨x2, g2, h⟩ := h.some (told_yes (by decide) (by decide) (by decide))
  obtain ⟨nq', ps', told, hp, e2⟩ := hear_fin (sq := 72) g2 rfl
  subst e2
  have hp := put_one (d := 1) hp (by decide) (by decide) (by decide) (by decide)
  rw [if_neg (by decide)] at hp
  obtain ⟨rfl, rfl, rfl⟩ := hp
  obtain ⟨x3, g3, h⟩ := h.some (told_yes (by decide) (by decide) (by decide))
  obtain ⟨nq', ps', told, hp, e3⟩ := hear_dat (sq := 71) g3 rfl
  subst e3
  obtain ⟨rfl, rfl, rfl⟩ := put_two (xs := [97]) (ys := [98]) hp (by decide) (by decide) (by decide)
  have := h.end_
  subst this
  exact ⟨rfl, by decide⟩
theorem anew1 {s : Nat} (hs : s ≤ 4294967295) {x : Lst} (h : Heard 5 6 (fs27 s) .zero x) : x.b = one27 ∧ (x.rst || decide (x.nq ∈ x.fins)) = false := by
  have := (heard1 hs (l := []) (by rw [List.append_nil]; exact h)).end_
  subst this
  exact ⟨rfl, rfl⟩
theorem anew2 {s : Nat} (hs : s ≤ 4294967295) {x : Lst} (h : Heard 5 6 (fs27 s ++ [fr27b s]) .zero x) : x.b = one27 ∧ (x.rst || decide (x.nq ∈ x.fins)) = true := by
  have := (heard2 hs (heard1 hs h)).end_
  subst this
  exact ⟨rfl, rfl⟩
theorem anew3 {s : Nat} (hs : s ≤ 4294967295) {x : Lst} (h : Heard 5 6 (fs27 s ++ [fr27b s] ++ fs27c) .zero x) : x.b = [97, 98] ∧ (x.rst || decide (x.nq ∈ x.fins)) = true := by
  rw [List.append_assoc] at h
  exact heard3 (heard2 hs (heard1 hs h))
def fsW27 : List (List UInt8) := [fr27 5 6 9 18 [], fr27 5 6 10 16 [192]]
theorem anewW {x : Lst} (h : Heard 5 6 fsW27 .zero x) : x.b = [192] ∧ (x.rst || decide (x.nq ∈ x.fins)) = false := by
  obtain ⟨x1, g1, h⟩ := h.some (told_yes (by decide) (by decide) (by decide))
  have e1 := hear_syn (sq := 9) g1
  subst e1
  obtain ⟨x2, g2, h⟩ := h.some (told_yes (by decide) (by decide) (by decide))
  obtain ⟨nq', ps', told, hp, e2⟩ := hear_dat (sq := 10) g2 rfl
  subst e2
  obtain ⟨rfl, rfl, rfl⟩ := put_now (nq := 10) hp (by decide) (by decide) (by decide)
  have := h.end_
  subst this
  exact ⟨rfl, rfl⟩
theorem fr27_len (d port sq fl : Nat) (xs : List UInt8) : (fr27 d port sq fl xs).length = 54 + xs.length := wire_length ..
theorem fs_len {l : List (List UInt8)} (h : l.all (fun b => Nat.ble b.length 1000) = true) : ∀ b ∈ l, b.length ≤ 140737488351232 := fun b hb => by
  have := Nat.le_of_ble_eq_true (List.all_eq_true.1 h b hb)
  omega
theorem fsW27_len : ∀ b ∈ fsW27, b.length ≤ 140737488351232 := fs_len (by simp only [fsW27, List.all_cons, List.all_nil, fr27_len]; rfl)
theorem fs27_len (s : Nat) : ∀ b ∈ fs27 s, b.length ≤ 140737488351232 := fs_len (by simp only [fs27, List.all_cons, List.all_nil, fr27_len]; rfl)
theorem fs27b_len (s : Nat) : ∀ b ∈ fs27 s ++ [fr27b s], b.length ≤ 140737488351232 := fs_len (by simp only [fs27, fr27b, List.cons_append, List.nil_append, List.all_cons, List.all_nil, fr27_len]; rfl)
theorem fs27c_len (s : Nat) : ∀ b ∈ fs27 s ++ [fr27b s] ++ fs27c, b.length ≤ 140737488351232 := fs_len (by simp only [fs27, fr27b, fs27c, List.cons_append, List.nil_append, List.all_cons, List.all_nil, fr27_len]; rfl)
end Go.Proofs.Ytlacidnnankjlaa

/-
  trace.Stream: what a listener hears of frames.
-/
namespace Go.Proofs.Ytlacidnnankjlaa
open Go.RowKit

/-- frames in the memory, in blocks of which S holds. -/
def FrsS (w : World) (S : Nat → Prop) (A : Option Addr) (l : List (List UInt8)) : Prop :=
  ∀ k b, l[k]? = some b → ∃ g o A' c', A = some ⟨g, o, none⟩ ∧ S g ∧ g < w.heap.size ∧ w.cell? ⟨g, o + k, none⟩ = some (.slice A' b.length c') ∧ b.length ≤ c' ∧ RBS w S A' b
theorem FrsS.mono {w : World} {S S' : Nat → Prop} {A : Option Addr} {l : List (List UInt8)} (h : FrsS w S A l) (hS : ∀ k, k < w.heap.size → S k → S' k) : FrsS w S' A l := by
  intro k b hk
  obtain ⟨g, o, A', c', h1, h2, h3, h4, h5, h6⟩ := h k b hk
  exact ⟨g, o, A', c', h1, hS _ h3 h2, h3, h4, h5, h6.mono hS⟩
theorem FrsS.grown {w w' : World} {S : Nat → Prop} {A : Option Addr} {l : List (List UInt8)} {r : Option Nat} (h : FrsS w S A l) (hg : w.grownBy w' r) (hr : ∀ k, r = some k → ¬ S k) : FrsS w' S A l := by
  intro k b hk
  obtain ⟨g, o, A', c', h1, h2, h3, h4, h5, h6⟩ := h k b hk
  exact ⟨g, o, A', c', h1, h2, Nat.lt_of_lt_of_le h3 hg.size, hg.cell h4 (fun e => hr _ e.symm h2), h5, h6.grown hg hr⟩
theorem FrsS.next {w w' : World} {S : Nat → Prop} {A : Option Addr} {l : List (List UInt8)} (h : FrsS w S A l) (hb : Below w.heap.size w w') : FrsS w' S A l := h.grown (below_grown hb none) (fun k e => by cases e)
theorem num2_lt4 (xs : List UInt8) (k : Nat) : num2 xs k 4 < 4294967296 := by
  have h1 := ofB_lt ((xs.drop k).take 4)
  have h2 : (256 : Nat) ^ ((xs.drop k).take 4).length ≤ 256 ^ 4 := Nat.pow_le_pow_right (by omega) (by rw [List.length_take]; omega)
  unfold num2
  omega
theorem segOut_ok {s d : Int} {xs : List UInt8} (h : (segOut s d xs).2 = 0) : (segOut s d xs).1 = sgParsed xs ∧ xs.length ≤ 1480 := by
  unfold segOut at h ⊢
  by_cases h1 : wordB s = false ∨ wordB d = false
  · rw [if_pos h1] at h; cases h
  rw [if_neg h1] at h ⊢
  by_cases h2 : xs.length < 20
  · rw [if_pos h2] at h; cases h
  rw [if_neg h2] at h ⊢
  by_cases h3 : sgN xs < 20
  · rw [if_pos h3] at h; cases h
  rw [if_neg h3] at h ⊢
  by_cases h4 : xs.length < sgN xs
  · rw [if_pos h4] at h; cases h
  rw [if_neg h4] at h ⊢
  by_cases h5 : 1480 < xs.length
  · rw [if_pos h5] at h; cases h
  rw [if_neg h5] at h ⊢
  by_cases h6 : segSum s.toNat d.toNat xs ≠ 0
  · rw [if_pos h6] at h; cases h
  rw [if_neg h6]
  exact ⟨rfl, Nat.le_of_not_lt h5⟩
theorem segIn_ok {b : List UInt8} {p : Pk} {q : Sg} (h : segIn b = some (p, q)) : q.sq = (q.sq.toNat : Int) ∧ q.sq.toNat ≤ 4294967295 ∧ q.xs.length ≤ 1480 := by
  unfold segIn at h
  by_cases h1 : (frOut b).2 ≠ 0 ∨ (frOut b).1.t ≠ 2048
  · rw [if_pos h1] at h; cases h
  rw [if_neg h1] at h
  by_cases h2 : (parseOut (frOut b).1.xs).2 ≠ 0 ∨ (parseOut (frOut b).1.xs).1.p ≠ 6
  · rw [if_pos h2] at h; cases h
  rw [if_neg h2] at h
  by_cases h3 : (segOut (parseOut (frOut b).1.xs).1.s (parseOut (frOut b).1.xs).1.d (parseOut (frOut b).1.xs).1.xs).2 ≠ 0
  · rw [if_pos h3] at h; cases h
  rw [if_neg h3] at h
  injection h with h
  injection h with _ h
  obtain ⟨h4, h5⟩ := segOut_ok (Decidable.not_not.1 h3)
  rw [h4] at h
  subst h
  generalize (parseOut (frOut b).1.xs).1.xs = xs at h5
  have := num2_lt4 xs 4
  refine ⟨rfl, Nat.le_of_lt_succ this, ?_⟩
  show (xs.drop (sgN xs)).length ≤ _
  rw [List.length_drop]
  omega
set_option maxRecDepth 100000 in
theorem slicesIndexI (fs : List Nat) (v : Nat) (A : Option Addr) (c : Nat) (w : World) (b : Nat) (hr : w.ownsRow b 3 1 (.slice A fs.length c) fs.length (fs.map natV)) (hn : fs.length ≤ 1000000000) :
    Calls Try.prog 28 #[.slice A fs.length c, .int .i64 (v : Int)] w fun e w' => ∃ u, e = .returned u ∧ ∃ r : Int, u = .int .i64 r ∧ (decide (0 ≤ r) = decide (v ∈ fs)) ∧ w = w' := by
  go_enter Try.func28, Try.ntmps28
  refine Has.start 19 [(0, .slice A fs.length c), (1, .int .i64 (v : Int))] rfl rfl ⟨rfl, rfl, trivial⟩ ?_
  intro a0 H0
  refine H0.rg 1 fun a H => nt ?_
  refine H.rg 1 fun a H => ?_
  refine H.len gz rfl rfl rfl rfl Try.underlying23 fun a H => ?_
  refine H.ms 1 fun a H => nt (wp_block ?_)
  refine wp_loop_up fs.length (fun k a w' => Has a 19 [(0, .slice A fs.length c), (1, .int .i64 (v : Int)), (7, .int .i64 (fs.length : Int)), (8, .int .i64 (k : Int))] ∧ v ∉ fs.take k ∧ w = w') ⟨H.keep ⟨rfl, rfl, rfl, rfl, trivial⟩, by simp, rfl⟩ ?_
  rintro k a w1 hk ⟨H, hv, rfl⟩
  refine H.rg 0 fun a H => ?_
  by_cases hlt : k < fs.length
  rotate_left
  · refine H.bb 0 rfl rfl rfl rfl rfl rfl (lss_i _ _ false (by rw [decide_eq_false_iff_not]; omega) _ _ _) rfl fun a H => nt (wp_seq (H.condF rfl ?_))
    refine wp_exit ?_
    repeat (with_reducible refine then_exit ?_)
    refine block_leave (then_normal ?_)
    have : k = fs.length := by omega
    subst this
    rw [List.take_length] at hv
    refine H.rg 1 fun a H => nt (wp_ret ?_)
    repeat (first | (with_reducible refine block_ret ?_) | (with_reducible refine then_ret ?_))
    exact bodyPost_ret (results_tmp rfl _ _ _) H.df ⟨_, congrArg Ending.returned (H.at_ 4 _ rfl), -1, rfl, by rw [decide_eq_false hv]; rfl, rfl⟩
  refine H.bb 0 rfl rfl rfl rfl rfl rfl (lss_i _ _ true (by rw [decide_eq_true_iff]; omega) _ _ _) rfl fun a H => nt (wp_seq (H.condT rfl ?_))
  refine skip_wp (then_normal (wp_seq (wp_block ?_)))
  obtain ⟨g, cap, hA, _, _⟩ := hr.form (by omega)
  injection hA with e1 _ e2
  subst e1 e2
  have hck := hr.cells (g := g) rfl k (natV fs[k]) (by rw [List.getElem?_map, List.getElem?_eq_getElem hlt]; rfl)
  rw [Addr.add_mid] at hck
  refine H.rg 2 fun a H => nt ?_
  refine H.rg 3 fun a H => ?_
  refine H.index gz rfl rfl rfl rfl rfl (index_1 23 Try.underlying23 (fun _ => by kernel_rfl) g 0 fs.length c k hlt w) fun a H => ?_
  refine H.ld 0 (load1_i _ _ _ _ hck) fun a H => ?_
  by_cases he : v = fs[k]
  · refine H.bb 0 rfl rfl rfl rfl rfl rfl (eql_iB _ _ true (by rw [he]; exact beq_self_eq_true _) _ _ _) rfl fun a H => nt (H.condT rfl ?_)
    refine H.rg 2 fun a H => nt (wp_ret ?_)
    repeat (first | (with_reducible refine block_ret ?_) | (with_reducible refine then_ret ?_))
    refine bodyPost_ret (results_tmp rfl _ _ _) H.df ⟨_, congrArg Ending.returned (H.at_ 4 _ rfl), (k : Int), rfl, ?_, rfl⟩
    rw [decide_eq_true (Int.natCast_nonneg k), decide_eq_true (he ▸ List.getElem_mem hlt)]
  · refine H.bb 0 rfl rfl rfl rfl rfl rfl (eql_iB _ _ false (by rw [beq_eq_false_iff_ne]; exact fun h => he (by omega)) _ _ _) rfl fun a H => nt (H.condF rfl (skip_wp ?_))
    refine block_normal (then_normal ?_)
    refine H.rg 0 fun a H => ?_
    refine H.bn 1 (succ_i k (by omega) _ _ _) fun a H => nt ?_
    refine ⟨hlt, H.keep ⟨rfl, rfl, rfl, rfl, trivial⟩, ?_, rfl⟩
    rw [List.take_add_one, List.getElem?_eq_getElem hlt]
    intro hm
    rcases List.mem_append.1 hm with hm | hm
    · exact hv hm
    · exact he (by simpa using hm)
set_option maxRecDepth 100000 in
theorem intsContain (fs : List Nat) (v : Nat) (A : Option Addr) (c : Nat) (w : World) (b : Nat) (hr : w.ownsRow b 3 1 (.slice A fs.length c) fs.length (fs.map natV)) (hn : fs.length ≤ 1000000000) :
    Calls Try.prog 16 #[.slice A fs.length c, .int .i64 (v : Int)] w fun e w' => e = .returned (.bool (decide (v ∈ fs))) ∧ w = w' := by
  go_enter Try.func16, Try.ntmps16
  refine Has.start 9 [(0, .slice A fs.length c), (1, .int .i64 (v : Int))] rfl rfl ⟨rfl, rfl, trivial⟩ ?_
  intro a0 H0
  refine H0.rg 1 fun a H => nt ?_
  refine H.rg 2 fun a H => ?_
  refine H.cl (slicesIndexI fs v A c w b hr hn) ?_
  rintro a _ w' ⟨r, rfl, hd, rfl⟩ H
  refine H.bb 1 rfl rfl rfl rfl rfl rfl (geq_i r 0 _ hd _ _ _) rfl fun a H => nt (wp_ret ?_)
  repeat (first | (with_reducible refine block_ret ?_) | (with_reducible refine then_ret ?_))
  exact bodyPost_ret (results_tmp rfl _ _ _) H.df ⟨congrArg Ending.returned (H.at_ 4 _ rfl), rfl⟩
theorem zero_lst (w : World) : (execOp (fun x => (evL [] x).getD undef) ⟨some 23, .build 51 #[], 51, "", #[], none⟩).run Try.prog w = .ok (.value (.agg (lstC .zero none 0 nilV nilV).toArray)) w := by kernel_rfl
/-- behind k frames. -/
def StrJ (W : World) (gx : Nat) (ti port : Int) (l : List (List UInt8)) (k : Nat) (w : World) : Prop :=
  ∃ x AP cP vB vF, Heard ti port (l.take k) .zero x ∧ LstOk k x ∧ Own W W.heap.size [(gx, lstC x AP cP vB vF)] w ∧ LstM gx x AP vB vF w
theorem StrJ.next {W : World} {gx : Nat} {ti port : Int} {l : List (List UInt8)} {k : Nat} {w w' : World} (h : StrJ W gx ti port l k w) (hb : Below w.heap.size w w') : StrJ W gx ti port l k w' := by
  obtain ⟨x, AP, cP, vB, vF, h1, h2, h3, h4⟩ := h
  exact ⟨x, AP, cP, vB, vF, h1, h2, h3.call hb, h4.next hb⟩
theorem toldTo_some {ti port : Int} {b : List UInt8} {p : Pk} {q : Sg} (h : segIn b = some (p, q)) : toldTo ti port b = if ((p.s == 167772161 && p.d == ti) && q.sp == 1883) && q.dp == port then some q else none := by
  unfold toldTo
  rw [h]
  show (if p.s = 167772161 ∧ p.d = ti ∧ q.sp = 1883 ∧ q.dp = port then some q else none) = _
  simp only [Bool.and_eq_true, beq_iff_eq, and_assoc]
theorem StrJ.skip {W : World} {gx : Nat} {ti port : Int} {l : List (List UInt8)} {k : Nat} {w : World} {b : List UInt8} (h : StrJ W gx ti port l k w) (hb : l[k]? = some b) (hn : toldTo ti port b = none) : StrJ W gx ti port l (k + 1) w := by
  obtain ⟨x, AP, cP, vB, vF, h1, h2, h3, h4⟩ := h
  refine ⟨x, AP, cP, vB, vF, ?_, h2.more (Nat.le_succ _), h3, h4⟩
  rw [List.take_add_one, hb]
  exact h1.append (.skip hn .nil)
theorem segInV_shape {W : World} {o : Option (Pk × Sg)} {v : Value} {w : World} (h : SegInV W o v w) : ∃ p q A0 n0 c0 A1 c1 z, v = .tuple #[.agg (pkL p (.slice A0 n0 c0)).toArray, .agg (sgL q (.slice A1 q.xs.length c1)).toArray, .bool z] ∧ Below W.heap.size W w ∧ (z = false → o = none) ∧ (z = true → o = some (p, q) ∧ w.ownsRow W.heap.size 5 1 (.slice A1 q.xs.length c1) q.xs.length (q.xs.map bv)) := by
  rcases o with _ | ⟨p, q⟩
  · exact ⟨.zero, .zero, none, 0, 0, none, 0, false, h.1, h.2, fun _ => rfl, fun h => by cases h⟩
  · obtain ⟨A0, n0, c0, A, c, rfl, h1, h2⟩ := h
    exact ⟨p, q, A0, n0, c0, A, c, true, rfl, h2, fun h => (by cases h), fun _ => ⟨rfl, h1⟩⟩
set_option maxRecDepth 100000 in
set_option maxHeartbeats 3200000 in
theorem traceStream (l : List (List UInt8)) (AL : Option Addr) (cL : Nat) (ti port : Int) (hti : inR ti 4294967295 = true) (hpo : inR port 65535 = true) (w : World) (hL : FrsS w (fun _ => True) AL l) (hl : l.length ≤ 100000) (hlb : ∀ b ∈ l, b.length ≤ 140737488351232) :
    Calls Try.prog 6 #[.slice AL l.length cL, .int .i64 ti, .int .i64 port] w fun e w' => ∃ v, e = .returned v ∧ ∃ x A c, v = .tuple #[.slice A x.b.length c, .bool (x.rst || decide (x.nq ∈ x.fins)), .int .i64 0] ∧ Heard ti port l .zero x ∧ LstOk l.length x ∧ w'.ownsRow w.heap.size 5 1 (.slice A x.b.length c) x.b.length (x.b.map bv) ∧ Below w.heap.size w w' := by
  go_enter Try.func6, Try.ntmps6
  refine Has.start 84 [(0, .slice AL l.length cL), (1, .int .i64 ti), (2, .int .i64 port)] rfl rfl ⟨rfl, rfl, rfl, trivial⟩ ?_
  intro a0 H0
  have O0 := Own.start w
  refine H0.rg 3 fun a H => nt ?_
  refine H.rg 1 fun a H => ?_
  refine H.cq 0 (segIP ti w) fun a H => ?_
  rw [hti] at H
  refine H.uo (r := .bool false) 1 fun a H => ?_
  refine H.go (H.wt rfl rfl rfl) rfl rfl _ (run_move (.inl rfl) (H.ev rfl)) fun a H => ?_
  refine H.call (H.wt rfl rfl rfl) rfl rfl rfl rfl (fun _ _ => by kernel_rfl) (quietC (segPort port w)) ?_
  rintro a _ _ ⟨rfl, rfl⟩ H
  rw [hpo] at H
  refine H.un (H.wt rfl rfl rfl) rfl rfl rfl rfl (run_not true _) fun a H => ?_
  refine H.pick gz rfl rfl rfl rfl rfl fun a H => nt (H.condF rfl (skip_wp (then_normal ?_)))
  replace H := H.keep (l' := [(0, .slice AL l.length cL), (1, .int .i64 ti), (2, .int .i64 port)]) ⟨rfl, rfl, rfl, trivial⟩
  refine H.rg 0 fun a H => ?_
  refine H.any (w' := w) gz rfl rfl (.agg (lstC .zero none 0 nilV nilV).toArray) (by intro cs b h; cases h) (by kernel_rfl) (by kernel_rfl) fun a H => ?_
  refine H.bx O0 1 (L := lstC .zero none 0 nilV nilV) fun a w1 O1 H => nt ?_
  generalize hgx : w.heap.size = gx at O1 H
  replace H := H.keep (l' := [(0, .slice AL l.length cL), (1, .int .i64 ti), (2, .int .i64 port), (9, .pointer (some ⟨gx, 0, none⟩))]) ⟨rfl, rfl, rfl, rfl, trivial⟩
  refine H.rg 1 fun a H => ?_
  refine H.len gz rfl rfl rfl rfl Try.underlying32 fun a H => ?_
  refine H.ms 1 fun a H => nt (wp_block ?_)
  have J0 : StrJ w gx ti port l 0 w1 := ⟨.zero, none, 0, nilV, nilV, .nil, LstOk.zero, hgx ▸ O1, World.ownsRow_nil _ _ _ _, World.ownsRow_nil _ _ _ _, PartsS.nil⟩
  refine wp_loop_up l.length (fun k a w' => Has a 84 [(1, .int .i64 ti), (2, .int .i64 port), (9, .pointer (some ⟨gx, 0, none⟩)), (25, .slice AL l.length cL), (26, .int .i64 (l.length : Int)), (27, .int .i64 (k : Int))] ∧ StrJ w gx ti port l k w') ⟨H.keep ⟨rfl, rfl, rfl, rfl, rfl, rfl, trivial⟩, J0⟩ ?_
  clear H H0 O0 O1 J0
  rintro k a w2 hk ⟨H, J⟩
  refine H.rg 0 fun a H => ?_
  by_cases hlt : k < l.length
  rotate_left
  · refine H.bb 0 rfl rfl rfl rfl rfl rfl (lss_i _ _ false (by rw [decide_eq_false_iff_not]; omega) _ _ _) rfl fun a H => nt (wp_seq (H.condF rfl ?_))
    refine wp_exit ?_
    repeat (with_reducible refine then_exit ?_)
    refine block_leave (then_normal ?_)
    have : k = l.length := by omega
    subst this
    obtain ⟨x, AP, cP, vB, vF, h1, h2, O, M⟩ := J
    rw [List.take_length] at h1
    obtain ⟨AB, cB, rfl, _, _⟩ := own_shape M.1
    obtain ⟨AF, cF, rfl, _, _⟩ := own_shape M.2.1
    obtain ⟨z, hz⟩ : ∃ z, decide (x.nq ∈ x.fins) = z := ⟨_, rfl⟩
    obtain ⟨rs, hrs⟩ : ∃ rs, x.rst = rs := ⟨_, rfl⟩
    have O : Own w w.heap.size [(gx, [.int .i64 (x.nq : Int), .slice AP x.ps.length cP, .bool x.up, .slice AB x.b.length cB, .bool rs, .slice AF x.fins.length cF])] w2 := by rw [← hrs]; exact O
    have hfl : x.fins.length ≤ 1000000000 := by have := h2.2.2.2.2; omega
    refine H.dq (fun w' => Own w w.heap.size [(gx, [.int .i64 (x.nq : Int), .slice AP x.ps.length cP, .bool x.up, .slice AB x.b.length cB, .bool rs, .slice AF x.fins.length cF])] w' ∧ LstM gx x AP (.slice AB x.b.length cB) (.slice AF x.fins.length cF) w') (fun _ _ h hb => ⟨h.1.call hb, h.2.next hb⟩) ⟨O, M⟩ [9] rfl
      [ec 0 64 (.pointer (some ⟨gx, 0, none⟩)), ec 1 65 (.pointer (some ⟨gx, 0, none⟩)), ec 2 66 (.pointer (some ⟨gx, 3, none⟩)), ec 3 67 (.slice AB x.b.length cB), ec 4 68 (.pointer (some ⟨gx, 0, none⟩)), ec 5 69 (.pointer (some ⟨gx, 0, none⟩)), ec 6 70 (.pointer (some ⟨gx, 4, none⟩)), ec 7 71 (.bool rs), ec 8 72 (.bool rs), ec 9 73 (gv (!rs) (.pointer (some ⟨gx, 0, none⟩))), ec 10 74 (gv (!rs) (.pointer (some ⟨gx, 0, none⟩))), ec 11 75 (gv (!rs) (.pointer (some ⟨gx, 5, none⟩))), ec 12 76 (gv (!rs) (.slice AF x.fins.length cF)), ec 13 77 (gv (!rs) (.pointer (some ⟨gx, 0, none⟩))), ec 14 78 (gv (!rs) (.pointer (some ⟨gx, 0, none⟩))), ec 15 79 (gv (!rs) (.pointer (some ⟨gx, 0, none⟩))), ec 16 80 (gv (!rs) (.pointer (some ⟨gx, 0, none⟩))), ec 17 81 (gv (!rs) (.int .i64 (x.nq : Int))), ec 18 82 (gv (!rs) (.bool z)), ec 19 83 (.bool (rs || z)), ec 20 6 (.slice AB x.b.length cB), ec 21 7 (.bool (rs || z)), ec 22 8 (.int .i64 0)] rfl
      ⟨jm, jm, jm, jl fun _ h => load1_31 _ _ _ _ _ _ ((Own.get h.1 0 rfl).get 3 _ rfl), jm, jm, jm, jl fun _ h => load1_b _ _ _ _ ((Own.get h.1 0 rfl).get 4 _ rfl), jm, (by cases rs; exact jm; exact jo), (by cases rs; exact jm; exact jo), (by cases rs; exact jm; exact jo), (by cases rs; exact jl fun _ h => load1_26 _ _ _ _ _ _ ((Own.get h.1 0 rfl).get 5 _ rfl); exact jo), (by cases rs; exact jm; exact jo), (by cases rs; exact jm; exact jo), (by cases rs; exact jm; exact jo), (by cases rs; exact jm; exact jo), (by cases rs; exact jl fun _ h => load1_i _ _ _ _ ((Own.get h.1 0 rfl).get 0 _ rfl); exact jo), (by cases rs; exact jq fun w' h => hz ▸ intsContain x.fins x.nq AF cF w' _ h.2.2.1 hfl; exact jo), (by (cases rs <;> exact jp)), jm, jm, jm, trivial⟩ trivial ?_
    intro a w3 H _ ⟨O3, M3⟩
    refine then_normal (wp_ret ?_)
    repeat (first | (with_reducible refine block_ret ?_) | (with_reducible refine then_ret ?_))
    refine bodyPost_ret (results_three rfl _ _ _ _ (H.at_ 6 _ rfl) (H.at_ 7 _ rfl) (H.at_ 8 _ rfl)) H.df ⟨_, rfl, x, AB, cB, by rw [hrs, hz], h1, h2, own_base M3.1 (Nat.le_succ _), hgx ▸ O3.bel⟩
  refine H.bb 0 rfl rfl rfl rfl rfl rfl (lss_i _ _ true (by rw [decide_eq_true_iff]; omega) _ _ _) rfl fun a H => nt (wp_seq (H.condT rfl ?_))
  refine skip_wp (then_normal (wp_seq (wp_block ?_)))
  obtain ⟨b, hb⟩ : ∃ b, l[k]? = some b := ⟨_, List.getElem?_eq_getElem hlt⟩
  have hbel : Below w.heap.size w w2 := by obtain ⟨x, AP, cP, vB, vF, h1, h2, O, M⟩ := J; exact O.bel
  have hb8 := hlb b (List.mem_of_getElem? hb)
  obtain ⟨g, o, A', c', rfl, _, hgl, hck, hbc, hrb⟩ := hL k b hb
  refine H.rg 0 fun a H => ?_
  refine H.index gz rfl rfl rfl rfl rfl (index_1 32 Try.underlying32 (fun _ => by kernel_rfl) g o l.length cL k hlt w2) fun a H => ?_
  refine H.ld 1 (load1_31 _ _ _ _ _ _ ((hbel.cell (p := ⟨g, o + k, none⟩) hgl).trans hck)) fun a H => nt ?_
  replace H := H.keep (l' := [(1, .int .i64 ti), (2, .int .i64 port), (9, .pointer (some ⟨gx, 0, none⟩)), (25, .slice (some ⟨g, o, none⟩) l.length cL), (26, .int .i64 (l.length : Int)), (27, .int .i64 (k : Int)), (11, .slice A' b.length c')]) ⟨rfl, rfl, rfl, rfl, rfl, rfl, rfl, trivial⟩
  refine H.rg 1 fun a H => ?_
  refine H.cl (traceSegment b A' c' hbc w2 (hrb.rb.next hbel) hb8) ?_
  intro a v w3 hv H
  obtain ⟨p, q, A0, n0, c0, A1, c1, z, rfl, hb3, hz, hsm⟩ := segInV_shape hv
  obtain ⟨x, AP, cP, vB, vF, h1, h2, O2, M2⟩ := J
  have O3 := O2.call hb3
  have M3 := M2.next hb3
  refine H.ms 1 fun a H => ?_
  refine H.ex (r := .agg (pkL p (.slice A0 n0 c0)).toArray) 0 fun a H => ?_
  refine H.ex (r := .agg (sgL q (.slice A1 q.xs.length c1)).toArray) 0 fun a H => ?_
  refine H.ex (r := .bool z) 0 fun a H => ?_
  refine H.al (Own.start w3) 0 zero_pk27 fun a w4 O4 H => ?_
  obtain ⟨g12, hg12⟩ : ∃ g12, w3.heap.size = g12 := ⟨_, rfl⟩
  rw [hg12] at O4 H
  refine H.al O4 0 zero_sg27 fun a w5 O5 H => ?_
  generalize w4.heap.size = g13 at O5 H
  refine H.st O5 1 0 (L := pkL p (.slice A0 n0 c0)) (fun a w6 O6 H => ?_) size_pk27
  refine H.st O6 0 1 (L := sgL q (.slice A1 q.xs.length c1)) (fun a w7 O7 H => nt ?_) size_sg27
  clear O4 O5 O6
  replace H := H.keep (l' := [(1, .int .i64 ti), (2, .int .i64 port), (9, .pointer (some ⟨gx, 0, none⟩)), (25, .slice (some ⟨g, o, none⟩) l.length cL), (26, .int .i64 (l.length : Int)), (27, .int .i64 (k : Int)), (12, .pointer (some ⟨g12, 0, none⟩)), (13, .pointer (some ⟨g13, 0, none⟩)), (14, .bool z)]) ⟨rfl, rfl, rfl, rfl, rfl, rfl, rfl, rfl, rfl, trivial⟩
  have hb7 : Below w3.heap.size w3 w7 := hg12 ▸ O7.bel
  have O8 := O3.call hb7
  have M8 := M3.next hb7
  cases z with
  | false =>
    have hno : toldTo ti port b = none := by unfold toldTo; rw [hz rfl]
    refine H.tb (fun w' => (Own w w.heap.size [(gx, lstC x AP cP vB vF)] w' ∧ LstM gx x AP vB vF w') ∧ Own w3 g12 [(g13, sgL q (.slice A1 q.xs.length c1)), (g12, pkL p (.slice A0 n0 c0))] w') (fun _ _ h hb => ⟨⟨h.1.1.call hb, h.1.2.next hb⟩, h.2.call hb⟩) ⟨⟨O8, M8⟩, O7⟩ [ec 0 37 (.bool false), ec 1 38 (.bool false), ec 2 39 (gv false (.pointer (some ⟨g12, 0, none⟩))), ec 3 40 (gv false (.int .i64 p.s)), ec 4 41 (gv false (.bool false)), ec 5 42 (.bool false), ec 6 43 (.bool false), ec 7 44 (gv false (.pointer (some ⟨g12, 1, none⟩))), ec 8 45 (gv false (.int .i64 p.d)), ec 9 46 (gv false (.int .i64 ti)), ec 10 47 (gv false (.bool false)), ec 11 48 (.bool false), ec 12 49 (.bool false), ec 13 50 (gv false (.pointer (some ⟨g13, 0, none⟩))), ec 14 51 (gv false (.int .i64 q.sp)), ec 15 52 (gv false (.bool false)), ec 16 53 (.bool false), ec 17 54 (.bool false), ec 18 55 (gv false (.pointer (some ⟨g13, 1, none⟩))), ec 19 56 (gv false (.int .i64 q.dp)), ec 20 57 (gv false (.int .i64 port)), ec 21 58 (gv false (.bool false)), ec 22 59 (.bool false)] rfl
      ⟨jm, jm, (by exact jo), (by exact jo), (by exact jo), jp, jm, (by exact jo), (by exact jo), (by exact jo), (by exact jo), jp, jm, (by exact jo), (by exact jo), (by exact jo), jp, jm, (by exact jo), (by exact jo), (by exact jo), (by exact jo), jp, trivial⟩ ?_
    intro a w9 H ⟨⟨O9, M9⟩, _⟩
    refine then_normal (H.condF rfl (skip_wp (block_normal (then_normal ?_))))
    refine H.rg 0 fun a H => ?_
    refine H.bn 1 (succ_i k (by omega) _ _ _) fun a H => nt ?_
    exact ⟨hlt, H.keep ⟨rfl, rfl, rfl, rfl, rfl, rfl, trivial⟩, StrJ.skip ⟨x, AP, cP, vB, vF, h1, h2, O9, M9⟩ hb hno⟩
  | true =>
    obtain ⟨hs, hrow⟩ := hsm rfl
    have hto := toldTo_some (ti := ti) (port := port) hs
    obtain ⟨hsq, hsl, hql⟩ := segIn_ok hs
    have hqc := own_cap hrow
    have hr3 : RBS w3 (LstS gx vB vF) A1 q.xs := (RBS.of_row hrow rfl).mono fun kk _ hk => ⟨Nat.lt_of_lt_of_le (O2.lt 0 rfl) hk.1, own_ne M2.1 (.inr hk.1), own_ne M2.2.1 (.inr hk.1)⟩
    have hr7 := hr3.grown (below_grown hb7 none) (fun k e => by cases e)
    obtain ⟨z1, hz1⟩ : ∃ z, (p.s == 167772161) = z := ⟨_, rfl⟩
    obtain ⟨z2, hz2⟩ : ∃ z, (p.d == ti) = z := ⟨_, rfl⟩
    obtain ⟨z3, hz3⟩ : ∃ z, (q.sp == 1883) = z := ⟨_, rfl⟩
    obtain ⟨z4, hz4⟩ : ∃ z, (q.dp == port) = z := ⟨_, rfl⟩
    rw [hz1, hz2, hz3, hz4] at hto
    refine H.tb (fun w' => (Own w w.heap.size [(gx, lstC x AP cP vB vF)] w' ∧ LstM gx x AP vB vF w' ∧ RBS w' (LstS gx vB vF) A1 q.xs) ∧ Own w3 g12 [(g13, sgL q (.slice A1 q.xs.length c1)), (g12, pkL p (.slice A0 n0 c0))] w') (fun _ _ h hb => ⟨⟨h.1.1.call hb, h.1.2.1.next hb, h.1.2.2.grown (below_grown hb none) (fun k e => by cases e)⟩, h.2.call hb⟩) ⟨⟨O8, M8, hr7⟩, O7⟩ [ec 0 37 (.bool true), ec 1 38 (.bool true), ec 2 39 (.pointer (some ⟨g12, 0, none⟩)), ec 3 40 (.int .i64 p.s), ec 4 41 (.bool z1), ec 5 42 (.bool z1), ec 6 43 (.bool z1), ec 7 44 (gv z1 (.pointer (some ⟨g12, 1, none⟩))), ec 8 45 (gv z1 (.int .i64 p.d)), ec 9 46 (gv z1 (.int .i64 ti)), ec 10 47 (gv z1 (.bool z2)), ec 11 48 (.bool (z1 && z2)), ec 12 49 (.bool (z1 && z2)), ec 13 50 (gv (z1 && z2) (.pointer (some ⟨g13, 0, none⟩))), ec 14 51 (gv (z1 && z2) (.int .i64 q.sp)), ec 15 52 (gv (z1 && z2) (.bool z3)), ec 16 53 (.bool ((z1 && z2) && z3)), ec 17 54 (.bool ((z1 && z2) && z3)), ec 18 55 (gv ((z1 && z2) && z3) (.pointer (some ⟨g13, 1, none⟩))), ec 19 56 (gv ((z1 && z2) && z3) (.int .i64 q.dp)), ec 20 57 (gv ((z1 && z2) && z3) (.int .i64 port)), ec 21 58 (gv ((z1 && z2) && z3) (.bool z4)), ec 22 59 (.bool (((z1 && z2) && z3) && z4))] rfl
      ⟨jm, jm, jm, jl fun _ h => load1_i _ _ _ _ ((Own.get h.2 1 rfl).get 0 _ rfl), jb fun _ => eql_iB p.s 167772161 z1 hz1 _ _ _, jp, jm, (by cases z1; exact jo; exact jm), (by cases z1; exact jo; exact jl fun _ h => load1_i _ _ _ _ ((Own.get h.2 1 rfl).get 1 _ rfl)), (by cases z1; exact jo; exact jm), (by cases z1; exact jo; exact jb fun _ => eql_iB p.d ti z2 hz2 _ _ _), (by (cases z1 <;> exact jp)), jm, (by cases z1; exact jo; cases z2; exact jo; exact jm), (by cases z1; exact jo; cases z2; exact jo; exact jl fun _ h => load1_i _ _ _ _ ((Own.get h.2 0 rfl).get 0 _ rfl)), (by cases z1; exact jo; cases z2; exact jo; exact jb fun _ => eql_iB q.sp 1883 z3 hz3 _ _ _), (by cases z1; exact jp; (cases z2 <;> exact jp)), jm, (by cases z1; exact jo; cases z2; exact jo; cases z3; exact jo; exact jm), (by cases z1; exact jo; cases z2; exact jo; cases z3; exact jo; exact jl fun _ h => load1_i _ _ _ _ ((Own.get h.2 0 rfl).get 1 _ rfl)), (by cases z1; exact jo; cases z2; exact jo; cases z3; exact jo; exact jm), (by cases z1; exact jo; cases z2; exact jo; cases z3; exact jo; exact jb fun _ => eql_iB q.dp port z4 hz4 _ _ _), (by cases z1; exact jp; cases z2; exact jp; (cases z3 <;> exact jp)), trivial⟩ ?_
    clear O7 O8 M8 hr7 hr3 hrow O3 M3
    intro a w9 H ⟨⟨O9, M9, hr9⟩, Ob⟩
    cases hzz : ((z1 && z2) && z3) && z4 with
    | false =>
      refine then_normal (H.cond (t := ((z1 && z2) && z3) && z4) rfl ?_)
      rw [hzz] at hto ⊢
      refine skip_wp (block_normal (then_normal ?_))
      refine H.rg 0 fun a H => ?_
      refine H.bn 1 (succ_i k (by omega) _ _ _) fun a H => nt ?_
      exact ⟨hlt, H.keep ⟨rfl, rfl, rfl, rfl, rfl, rfl, trivial⟩, StrJ.skip ⟨x, AP, cP, vB, vF, h1, h2, O9, M9⟩ hb hto⟩
    | true =>
      refine then_normal (H.cond (t := ((z1 && z2) && z3) && z4) rfl ?_)
      rw [hzz] at hto ⊢
      replace hto : toldTo ti port b = some q := hto
      refine H.rg 1 fun a H => ?_
      refine H.loadS rfl rfl rfl rfl rfl (Ob.get 0 rfl) Try.underlying30 rfl size_sg27 rfl fun a H => ?_
      have hok := h2
      obtain ⟨k1, k2, k3, k4, k5⟩ := hok
      refine H.cl (hearC w w.heap.size gx x AP cP vB vF q q.sq.toNat hsq hsl A1 c1 w9 O9 M9 hr9 hqc (by omega) k1 (by omega) k3 (by omega) (by omega)) ?_
      rintro a _ w10 ⟨x', AP', cP', vB', vF', hG, O10, M10⟩ H
      refine wpList_nil (block_normal (then_normal ?_))
      refine H.rg 0 fun a H => ?_
      refine H.bn 1 (succ_i k (by omega) _ _ _) fun a H => nt ?_
      refine ⟨hlt, H.keep ⟨rfl, rfl, rfl, rfl, rfl, rfl, trivial⟩, x', AP', cP', vB', vF', ?_, hear_ok hG h2, O10, M10⟩
      rw [List.take_add_one, hb]
      exact h1.append (.take hto hG .nil)
end Go.Proofs.Ytlacidnnankjlaa

/-
  The page's FrameBytes.
-/
namespace Go.Proofs.Ytlacidnnankjlaa
open Go.RowKit

theorem bigC (k v : Nat) (hk : k ≤ 7) (hv : v < 9223372036854775808) (w : World) :
    Calls Try.prog 18 #[.int .i64 (v : Int), .int .i64 (k : Int)] w fun e w' => ∃ u, e = .returned u ∧ (BytesAre (big k v) u w' ∧ Below w.heap.size w w') :=
  (big_walk (v : Int) (k : Int) v k rfl rfl hk hv w).mono fun _ _ ⟨A', c', h1, h2, h3⟩ => ⟨_, h1, by
    have := (RowIs.of (big_length k v) h2).read
    exact this, h3⟩
theorem bigR (k v : Nat) (hk : k ≤ 7) (hv : v < 9223372036854775808) (w : World) :
    Calls Try.prog 18 #[.int .i64 (v : Int), .int .i64 (k : Int)] w fun e w' => ∃ u, e = .returned u ∧ (RowIs w.heap.size (big k v) u w' ∧ Below w.heap.size w w') :=
  (big_walk (v : Int) (k : Int) v k rfl rfl hk hv w).mono fun _ _ ⟨_A', _c', h1, h2, h3⟩ => ⟨_, h1, RowIs.of (big_length k v) h2, h3⟩
set_option maxRecDepth 100000 in
set_option maxHeartbeats 1600000 in
theorem pageFrameBytes (d s t : Nat) (xs : List UInt8) (A : Option Addr) (c : Nat) (w : World) (hd : d < 281474976710656) (hs : s < 281474976710656) (ht : t < 65536) (hx : RB w w.heap.size A xs) (hl : xs.length ≤ 140737488351232) :
    Calls Try.prog 10 #[.agg ([.int .i64 (d : Int), .int .i64 (s : Int), .int .i64 (t : Int), .slice A xs.length c] : List Value).toArray] w fun e w' => ∃ v, e = .returned v ∧ (RowIs w.heap.size (frBytes d s t xs) v w' ∧ Below w.heap.size w w') := by
  go_enter Try.func10, Try.ntmps10
  refine Has.start 20 [(0, .agg ([.int .i64 (d : Int), .int .i64 (s : Int), .int .i64 (t : Int), .slice A xs.length c] : List Value).toArray)] rfl rfl ⟨rfl, trivial⟩ ?_
  intro a0 H0
  have O0 := Own.start w
  refine rl ?_
  refine H0.bx O0 1 (L := [.int .i64 (d : Int), .int .i64 (s : Int), .int .i64 (t : Int), .slice A xs.length c]) fun a w1 O1 H => nt ?_
  generalize hg : w.heap.size = g at O1 H
  obtain ⟨b0, hb0⟩ : ∃ b0, b0 = w1.heap.size := ⟨_, rfl⟩
  have hgb : g < b0 := by rw [hb0]; exact O1.lt 0 rfl
  have ou : ∀ {w' w'' : World}, Own w g [(g, [.int .i64 (d : Int), .int .i64 (s : Int), .int .i64 (t : Int), .slice A xs.length c])] w' → Below b0 w' w'' → Own w g [(g, [.int .i64 (d : Int), .int .i64 (s : Int), .int .i64 (t : Int), .slice A xs.length c])] w'' := fun h hb => own_under h hb (Nat.le_of_lt hgb) (fun p hp => by rw [List.mem_singleton.1 hp]; exact hgb)
  replace H := H.keep (l' := [(1, .pointer (some ⟨g, 0, none⟩))]) ⟨rfl, trivial⟩
  refine H.sg (fun w' => Own w g [(g, [.int .i64 (d : Int), .int .i64 (s : Int), .int .i64 (t : Int), .slice A xs.length c])] w' ∧ b0 ≤ w'.heap.size) ⟨O1.drew, by rw [hb0]; exact Nat.le_refl _⟩ [1] [ec 0 4 (.pointer (some ⟨g, 0, none⟩)), ec 1 5 (.int .i64 (d : Int)), ec 3 7 (.pointer (some ⟨g, 1, none⟩)), ec 4 8 (.int .i64 (s : Int))] rfl ?_
  refine St.call 2 ⟨jm, jl fun _ h => h.1.li 0 0, jm, jl fun _ h => h.1.li 0 1, trivial⟩ (fun wy _ => bigR 6 d (by decide) (by omega) wy) ?_
  rintro wx v wz hh ⟨⟨A2, c2, rfl, hrow⟩, hb⟩
  rw [show (big 6 d).length = 6 from big_length 6 d] at hrow ⊢
  refine nx (fun w' => (Own w g [(g, [.int .i64 (d : Int), .int .i64 (s : Int), .int .i64 (t : Int), .slice A xs.length c])] w' ∧ b0 ≤ w'.heap.size) ∧ w'.ownsRow b0 5 1 (.slice A2 6 c2) 6 ((big 6 d).map bv)) [] [] ⟨⟨hh.1.call hb, Nat.le_trans hh.2 hb.size⟩, own_base hrow hh.2⟩ ?_
  refine St.call 5 ⟨jm, jl fun _ h => h.1.1.li 0 1, trivial⟩ (fun wy _ => bigC 6 s (by decide) (by omega) wy) ?_
  clear hrow hb hh
  rintro wx v wz hh ⟨⟨A3, c3, rfl, hr3⟩, hb⟩
  rw [show (big 6 s).length = 6 from big_length 6 s]
  refine nx (fun w' => ((Own w g [(g, [.int .i64 (d : Int), .int .i64 (s : Int), .int .i64 (t : Int), .slice A xs.length c])] w' ∧ b0 ≤ w'.heap.size) ∧ w'.ownsRow b0 5 1 (.slice A2 6 c2) 6 ((big 6 d).map bv)) ∧ RB w' w'.heap.size A3 (big 6 s)) [] [] ⟨⟨⟨hh.1.1.call hb, Nat.le_trans hh.1.2 hb.size⟩, own_below hh.2 hb⟩, hr3⟩ ?_
  refine St.app (k := 6) (m := 6) (ys := (big 6 s).map bv) 6 info_u8 trivial (fun _ h => ⟨h.1.2, by have := h.2; unfold RB at this; rw [show (big 6 s).length = 6 from big_length 6 s] at this; exact this, h.1.1.2⟩) (bv_one _) ⟨by decide, by decide⟩ ?_
  clear hh hb hr3
  intro wx A4 c4 w' h hO hgr
  have hbb : Below b0 wx w' := (Below.refl _ _).grown hgr h.1.1.2 fun k hk => (h.1.2.lt k hk).1
  refine nx (fun w' => Own w g [(g, [.int .i64 (d : Int), .int .i64 (s : Int), .int .i64 (t : Int), .slice A xs.length c])] w' ∧ b0 ≤ w'.heap.size ∧ RowIs b0 (big 6 d ++ big 6 s) (.slice A4 (6 + 6) c4) w') [ec 7 3 (.slice A4 (6 + 6) c4)] [] ⟨ou h.1.1.1 hbb, Nat.le_trans h.1.1.2 hbb.size, RowIs.of (by simp [big_length]) (by rw [List.map_append]; exact hO)⟩ ?_
  refine St.fin ⟨jm, trivial⟩ ?_
  clear h hO hgr hbb
  rintro a w2 H _ ⟨O2, hs2, hr2⟩
  refine then_normal ?_
  generalize Value.slice A4 (6 + 6) c4 = v2 at H hr2
  replace H := H.keep (l' := [(1, .pointer (some ⟨g, 0, none⟩)), (3, v2)]) ⟨rfl, rfl, trivial⟩
  refine H.rg 2 fun a H => ?_
  refine H.ld 0 (O2.li 0 2) fun a H => ?_
  refine H.cl (bigC 2 t (by decide) (by omega) w2) ?_
  rintro a u3 x3 ⟨hu3, hbu3⟩ H
  have hsu3 := hbu3.size
  refine H.appendRow Try.underlying27 info_u8 (gz rfl) rfl rfl rfl rfl rfl (hr2.below hbu3) hu3 (by simp [big_length]) (Nat.le_trans hs2 hsu3) ?_
  intro a v3 w3 H hr3 hb3 _
  have O3 := ou (O2.call hbu3) hb3
  have hs3 : b0 ≤ w3.heap.size := Nat.le_trans (Nat.le_trans hs2 hsu3) hb3.size
  refine H.ms 1 fun a H => nt ?_
  replace H := H.keep (l' := [(1, .pointer (some ⟨g, 0, none⟩)), (3, v3)]) ⟨rfl, rfl, trivial⟩
  refine H.rg 2 fun a H => ?_
  refine H.ld 0 (load1_31 _ _ _ _ _ _ ((O3.get 0 rfl).get 3 _ rfl)) fun a H => ?_
  refine H.appendRow (ys := xs) Try.underlying27 info_u8 (gz rfl) rfl rfl rfl rfl rfl hr3 ⟨A, c, rfl, hx.next (hg ▸ O3.bel)⟩ (by simp [big_length]; omega) hs3 ?_
  intro a v4 w4 H hr4 hb4 _
  have O4 := ou O3 hb4
  refine H.ms 1 fun a H => nt (wp_ret ?_)
  repeat (first | (with_reducible refine block_ret ?_) | (with_reducible refine then_ret ?_))
  refine bodyPost_ret (results_tmp rfl _ _ _) H.df ⟨v4, congrArg Ending.returned (H.at_ 2 _ rfl), ?_, hg ▸ O4.bel⟩
  have e : frBytes d s t xs = big 6 d ++ big 6 s ++ big 2 t ++ xs := by simp [frBytes]
  rw [e]
  exact hr4.base (Nat.le_of_lt hgb)
end Go.Proofs.Ytlacidnnankjlaa

/-
  A frame of a law: of a segment from the kernel to somebody.
-/
namespace Go.Proofs.Ytlacidnnankjlaa
open Go.RowKit

theorem conv_32 (z : Int) (w : World) : (convert 3 26 (.int .i64 z)).run Try.prog w = .ok (.int .u32 (z % 4294967296)) w := by
  simp [go_sem]
  rfl
theorem conv_23 (z : Int) (h0 : 0 ≤ z) (h1 : z < 4294967296) (w : World) : (convert 26 3 (.int .u32 z)).run Try.prog w = .ok (.int .i64 z) w := by
  simp [go_sem]
  exact IntWalk.i64_in _ (by omega)
theorem add_32 (u v : Int) (x y : Operand) (w : World) : (do eqGuard .add 26 x y (.int .u32 u) (.int .u32 v); binOp .add 26 (.int .u32 u) (.int .u32 v) : Sem Value).run Try.prog w = .ok (.int .u32 ((u + v) % 4294967296)) w := by
  simp [go_sem]
  rfl
theorem pageAdd (s n : Nat) (w : World) : Calls Try.prog 5 #[.int .i64 (s : Int), .int .i64 (n : Int)] w fun e w' => e = .returned (.int .i64 ((spAdd s n : Nat) : Int)) ∧ w = w' := by
  go_enter Try.func5, Try.ntmps5
  refine Has.start 11 [(0, .int .i64 (s : Int)), (1, .int .i64 (n : Int))] rfl rfl ⟨rfl, rfl, trivial⟩ ?_
  intro a0 H0
  refine H0.rg 1 fun a H => nt ?_
  refine H.rg 1 fun a H => ?_
  refine H.cv 1 (conv_32 (s : Int) w) fun a H => ?_
  refine H.cv 0 (conv_32 (n : Int) w) fun a H => ?_
  refine H.bn 0 (add_32 ((s : Int) % 4294967296) ((n : Int) % 4294967296) _ _ w) fun a H => ?_
  refine H.cv 1 (conv_23 (((s : Int) % 4294967296 + (n : Int) % 4294967296) % 4294967296) (by omega) (by omega) w) fun a H => nt (wp_ret ?_)
  repeat (first | (with_reducible refine block_ret ?_) | (with_reducible refine then_ret ?_))
  refine bodyPost_ret (results_tmp rfl _ _ _) H.df ⟨?_, rfl⟩
  refine (congrArg Ending.returned (H.at_ 4 _ rfl)).trans ?_
  have e : ((s : Int) % 4294967296 + (n : Int) % 4294967296) % 4294967296 = ((spAdd s n : Nat) : Int) := by unfold spAdd; omega
  rw [e]
theorem refSegBytesC (ti sp port sq ak fl wn : Nat) (xs : List UInt8) (A : Option Addr) (c : Nat) (h : Sg.ok ⟨sp, port, sq, ak, fl, wn, xs⟩ = true) (hd : ti < 4294967296) (w : World) (hx : RB w w.heap.size A xs) :
    Calls Try.prog 9 #[.int .i64 167772161, .int .i64 (ti : Int), .agg #[.int .i64 (sp : Int), .int .i64 (port : Int), .int .i64 (sq : Int), .int .i64 (ak : Int), .int .i64 (fl : Int), .int .i64 (wn : Int), .slice A xs.length c]] w fun e w' => ∃ v, e = .returned v ∧ ∃ A' c', v = .slice A' (20 + xs.length) c' ∧ w'.ownsRow w.heap.size 5 1 (.slice A' (20 + xs.length) c') (20 + xs.length) ((sgBytes 167772161 ti sp port sq ak fl wn xs).map bv) ∧ Below w.heap.size w w' :=
  (refSegBytes 167772161 ti sp port sq ak fl wn xs xs.length rfl A c h (by decide) hd w hx).mono fun _ _ ⟨A', c', h1, h2, h3⟩ => ⟨_, h1, A', c', rfl, h2, h3⟩
theorem refPBytesC (d : Nat) (xs : List UInt8) (n : Nat) (hl : xs.length = n) (A : Option Addr) (c : Nat) (h : Pk.ok ⟨167772161, d, 6, 64, 0, xs⟩ = true) (w : World) (hx : RB w w.heap.size A xs) :
    Calls Try.prog 11 #[.agg #[.int .i64 167772161, .int .i64 (d : Int), .int .i64 6, .int .i64 64, .int .i64 0, .slice A n c]] w fun e w' => ∃ v, e = .returned v ∧ ∃ A' c', v = .slice A' (20 + n) c' ∧ w'.ownsRow w.heap.size 5 1 (.slice A' (20 + n) c') (20 + n) ((ipHead 167772161 d 6 64 0 n ++ xs).map bv) ∧ Below w.heap.size w w' :=
  (refPBytes 167772161 d 6 64 0 xs n hl A c h w hx).mono fun _ _ ⟨A', c', h1, h2, h3⟩ => ⟨_, h1, A', c', rfl, h2, h3⟩
set_option maxRecDepth 100000 in
set_option maxHeartbeats 1600000 in
theorem frame27 (ti port sq ak fl wn : Nat) (sp0 dp0 : Int) (xs : List UInt8) (A : Option Addr) (c : Nat) (hq : Sg.ok ⟨1883, port, sq, ak, fl, wn, xs⟩ = true) (hti : ti < 4294967296) (w : World) (hx : RB w w.heap.size A xs) :
    Calls Try.prog 4 #[.int .i64 (ti : Int), .int .i64 (port : Int), .agg ([.int .i64 sp0, .int .i64 dp0, .int .i64 (sq : Int), .int .i64 (ak : Int), .int .i64 (fl : Int), .int .i64 (wn : Int), .slice A xs.length c] : List Value).toArray] w fun e w' => ∃ v, e = .returned v ∧ (RowIs w.heap.size (wire 3 2199023255553 167772161 ti ⟨1883, port, sq, ak, fl, wn, xs⟩) v w' ∧ Below w.heap.size w w') := by
  have hl : xs.length ≤ 1460 := (Sg.ok_iff.1 hq).2.2.2.2.2.2
  go_enter Try.func4, Try.ntmps4
  refine Has.start 20 [(0, .int .i64 (ti : Int)), (1, .int .i64 (port : Int)), (2, .agg ([.int .i64 sp0, .int .i64 dp0, .int .i64 (sq : Int), .int .i64 (ak : Int), .int .i64 (fl : Int), .int .i64 (wn : Int), .slice A xs.length c] : List Value).toArray)] rfl rfl ⟨rfl, rfl, rfl, trivial⟩ ?_
  intro a0 H0
  have O0 := Own.start w
  refine rl ?_
  refine H0.bx O0 1 (L := [.int .i64 sp0, .int .i64 dp0, .int .i64 (sq : Int), .int .i64 (ak : Int), .int .i64 (fl : Int), .int .i64 (wn : Int), .slice A xs.length c]) fun a w1 O1 H => nt ?_
  generalize hg : w.heap.size = g at O1 H
  refine H.rg 2 fun a H => ?_
  refine H.sc O1 0 1 (store1_i g 0 1883 · w1) (fun a w2 O2 H => ?_)
  refine H.sc O2 0 0 (store1_i g 1 (port : Int) · w2) (fun a w3 O3 H => nt ?_)
  replace O3 : Own w g [(g, [.int .i64 1883, .int .i64 (port : Int), .int .i64 (sq : Int), .int .i64 (ak : Int), .int .i64 (fl : Int), .int .i64 (wn : Int), .slice A xs.length c])] w3 := O3
  replace H := H.keep (l' := [(0, .int .i64 (ti : Int)), (5, .pointer (some ⟨g, 0, none⟩))]) ⟨rfl, rfl, trivial⟩
  refine H.rg 2 fun a H => ?_
  refine H.loadS rfl rfl rfl rfl rfl (O3.get 0 rfl) Try.underlying30 rfl size_sg27 rfl fun a H => ?_
  refine H.cl (refSegBytesC ti 1883 port sq ak fl wn xs A c hq hti w3 (hx.next (hg ▸ O3.bel))) ?_
  rintro a _ w4 ⟨A1, c1, rfl, hO1, hb4⟩ H
  have O4 := O3.call hb4
  have hr4 := rb_of_own (sgBytes_length 167772161 ti 1883 port sq ak fl wn xs) hO1 hb4.size
  have hpk := wire_ip (src := 167772161) (dst := ti) (q := ⟨1883, port, sq, ak, fl, wn, xs⟩) (by decide) hti hl
  refine H.any (w' := w4) gz rfl rfl (.agg ([.int .i64 167772161, .int .i64 (ti : Int), .int .i64 6, .int .i64 64, .int .i64 0, .slice A1 (20 + xs.length) c1] : List Value).toArray) (by intro cs b h; cases h) (by kernel_rfl) (by kernel_rfl) fun a H => ?_
  refine H.nk O4 0 (L := [.int .i64 167772161, .int .i64 (ti : Int), .int .i64 6, .int .i64 64, .int .i64 0, .slice A1 (20 + xs.length) c1]) rfl zero_pk27 size_pk27 (fun a w5 hb5 O5 _ H => nt ?_)
  generalize w4.heap.size = g7 at O5 H
  refine H.rg 0 fun a H => ?_
  refine H.loadS rfl rfl rfl rfl rfl (O5.get 0 rfl) Try.underlying40 rfl size_pk27 rfl fun a H => ?_
  refine H.cl (refPBytesC ti (sgBytes 167772161 ti 1883 port sq ak fl wn xs) (20 + xs.length) (sgBytes_length ..) A1 c1 hpk w5 (hr4.next hb5)) ?_
  rintro a _ w6 ⟨A2, c2, rfl, hO2, hb6⟩ H
  have O6 := O5.call hb6
  have hlen : (ipHead 167772161 ti 6 64 0 (20 + xs.length) ++ sgBytes 167772161 ti 1883 port sq ak fl wn xs).length = 20 + (20 + xs.length) := by simp [ipHead_length, sgBytes_length]
  have hr6 := rb_of_own hlen hO2 hb6.size
  refine H.any (w' := w6) gz rfl rfl (.agg ([.int .i64 ((3 : Nat) : Int), .int .i64 ((2199023255553 : Nat) : Int), .int .i64 ((2048 : Nat) : Int), .slice A2 (20 + (20 + xs.length)) c2] : List Value).toArray) (by intro cs b h; cases h) (by kernel_rfl) (by kernel_rfl) fun a H => ?_
  rw [← hlen] at H
  refine H.cl (pageFrameBytes 3 2199023255553 2048 (ipHead 167772161 ti 6 64 0 (20 + xs.length) ++ sgBytes 167772161 ti 1883 port sq ak fl wn xs) A2 c2 w6 (by decide) (by decide) (by decide) hr6 (by rw [hlen]; omega)) ?_
  rintro a v w7 ⟨hrow, hb7⟩ H
  refine H.ms 1 fun a H => nt (wp_ret ?_)
  repeat (first | (with_reducible refine block_ret ?_) | (with_reducible refine then_ret ?_))
  refine bodyPost_ret (results_tmp rfl _ _ _) H.df ⟨v, congrArg Ending.returned (H.at_ 6 _ rfl), ?_, hg ▸ (O6.call hb7).bel⟩
  have e : wire 3 2199023255553 167772161 ti ⟨1883, port, sq, ak, fl, wn, xs⟩ = frBytes 3 2199023255553 2048 (ipHead 167772161 ti 6 64 0 (20 + xs.length) ++ sgBytes 167772161 ti 1883 port sq ak fl wn xs) := by
    unfold wire Pk.bytes Sg.bytes
    show frBytes 3 2199023255553 2048 (ipHead 167772161 ti 6 64 0 (sgBytes 167772161 ti 1883 port sq ak fl wn xs).length ++ _) = _
    rw [sgBytes_length]
    rfl
  rw [e]
  exact hrow.base (hg ▸ O6.le)
end Go.Proofs.Ytlacidnnankjlaa

/-
  Rows of frames: made, made longer.
-/
namespace Go.Proofs.Ytlacidnnankjlaa
open Go.RowKit

/-- a frame's bytes, in blocks from b on. -/
def FrIs (b : Nat) (x : List UInt8) (u : Value) (w : World) : Prop := ∃ A c, u = .slice A x.length c ∧ x.length ≤ c ∧ RBS w (fun k => b ≤ k) A x
theorem FrIs.next {b : Nat} {x : List UInt8} {u : Value} {w w' : World} (h : FrIs b x u w) (hb : Below w.heap.size w w') : FrIs b x u w' := by
  obtain ⟨A, c, h1, h2, h3⟩ := h
  exact ⟨A, c, h1, h2, h3.grown (below_grown hb none) (fun k e => by cases e)⟩
theorem FrIs.base {b b' : Nat} {x : List UInt8} {u : Value} {w : World} (h : FrIs b x u w) (hb : b' ≤ b) : FrIs b' x u w := by
  obtain ⟨A, c, h1, h2, h3⟩ := h
  exact ⟨A, c, h1, h2, h3.mono fun k _ hk => Nat.le_trans hb hk⟩
theorem FrIs.of {b : Nat} {x : List UInt8} {u : Value} {w : World} (h : RowIs b x u w) : FrIs b x u w := by
  obtain ⟨A, c, rfl, hO⟩ := h
  exact ⟨A, c, rfl, own_cap hO, (RBS.of_row hO rfl).mono fun k _ hk => hk.1⟩
theorem fr_nil {b : Nat} {w : World} : ∀ p ∈ ([] : List (Value × List UInt8)), FrIs b p.2 p.1 w := fun p hp => by cases hp
theorem fr_cons {b : Nat} {w : World} {u : Value} {x : List UInt8} {l : List (Value × List UInt8)} (h : FrIs b x u w) (hl : ∀ p ∈ l, FrIs b p.2 p.1 w) : ∀ p ∈ (u, x) :: l, FrIs b p.2 p.1 w := fun p hp => by
  rcases List.mem_cons.1 hp with rfl | hp
  · exact h
  · exact hl p hp
theorem FrIs.shape {b : Nat} {x : List UInt8} {u : Value} {w : World} (h : FrIs b x u w) : ∃ A n c, u = .slice A n c ∧ FrIs b x (.slice A n c) w := by
  obtain ⟨A, c, rfl, h2, h3⟩ := h
  exact ⟨A, x.length, c, rfl, A, c, rfl, h2, h3⟩
/-- a row of frames that one may write. -/
def FrRow (b : Nat) (fs : List (Value × List UInt8)) (v : Value) (w : World) : Prop :=
  w.ownsRow b 27 1 v fs.length (fs.map (·.1)) ∧ ∀ p ∈ fs, ∃ A c, p.1 = .slice A p.2.length c ∧ p.2.length ≤ c ∧ RBS w (fun k => some k ≠ v.ownBlock) A p.2
theorem FrRow.next {b : Nat} {fs : List (Value × List UInt8)} {v : Value} {w w' : World} (h : FrRow b fs v w) (hb : Below w.heap.size w w') : FrRow b fs v w' := by
  refine ⟨own_below h.1 hb, fun p hp => ?_⟩
  obtain ⟨A, c, h1, h2, h3⟩ := h.2 p hp
  exact ⟨A, c, h1, h2, h3.grown (below_grown hb none) (fun k e => by cases e)⟩
theorem FrRow.frs {b : Nat} {fs : List (Value × List UInt8)} {v : Value} {w : World} (h : FrRow b fs v w) : ∃ A c, v = .slice A (fs.map (·.2)).length c ∧ FrsS w (fun _ => True) A (fs.map (·.2)) := by
  obtain ⟨A, c, rfl, _, _⟩ := own_shape h.1
  refine ⟨A, c, by rw [List.length_map], fun k x hk => ?_⟩
  rw [List.getElem?_map] at hk
  cases hp : fs[k]? with
  | none => rw [hp] at hk; cases hk
  | some p =>
    rw [hp] at hk
    injection hk with hk
    subst hk
    have hlt : k < fs.length := (List.getElem?_eq_some_iff.1 hp).1
    obtain ⟨g, cap, hA, _, hgl⟩ := h.1.form (by omega)
    injection hA with e1 _ e2
    subst e1 e2
    have hck := h.1.cells (g := g) rfl k p.1 (by rw [List.getElem?_map, hp]; rfl)
    rw [Addr.add_mid] at hck
    obtain ⟨A', c', h1, h2, h3⟩ := h.2 p (List.mem_of_getElem? hp)
    exact ⟨g, 0, A', c', rfl, trivial, hgl, by rw [← h1]; exact hck, h2, h3.mono fun _ _ _ => trivial⟩
theorem FrRow.le {b : Nat} {fs : List (Value × List UInt8)} {v : Value} {w : World} (h : FrRow b fs v w) (hn : 0 < fs.length) : b ≤ w.heap.size := by
  obtain ⟨g, cap, _, h1, h2⟩ := h.1.form hn
  omega
theorem RowIs.next {b : Nat} {xs : List UInt8} {v : Value} {w w' : World} (h : RowIs b xs v w) (hb : Below w.heap.size w w') : RowIs b xs v w' := h.below hb
theorem RowIs.past {b b' : Nat} {xs : List UInt8} {v u : Value} {w w' : World} {n : Nat} {cs : List Value} (h : RowIs b xs v w) (hO : w.ownsRow b' 27 1 u n cs) (hg : w.grownBy w' u.ownBlock) : RowIs b xs v w' := by
  obtain ⟨A, c, rfl, h⟩ := h
  exact ⟨A, c, rfl, h.kept hg (own_apart h hO rfl)⟩
theorem RowIs.rb {b n c : Nat} {A : Option Addr} {xs : List UInt8} {w : World} (h : RowIs b xs (.slice A n c) w) : RB w w.heap.size A xs := by
  obtain ⟨A', c', e, hr⟩ := h.read
  injection e with e1 _ _
  rw [e1]
  exact hr
theorem FrRow.at_ {b n c : Nat} {A : Option Addr} {fs : List (Value × List UInt8)} {w : World} (h : FrRow b fs (.slice A n c) w) : FrsS w (fun _ => True) A (fs.map (·.2)) := by
  obtain ⟨A', c', e, hf⟩ := h.frs
  injection e with e1 _ _
  rw [e1]
  exact hf
theorem FrRow.lit {b : Nat} {fs : List (Value × List UInt8)} {w : World} (h : ∀ p ∈ fs, FrIs b p.2 p.1 w) (hn : fs.length ≤ maxLen) : FrRow w.heap.size fs (.slice (some ⟨w.heap.size, 0, none⟩) fs.length fs.length) (w.alloc (.cells (fs.map (·.1)).toArray 27)) := by
  refine ⟨own_lit w (fs.map (·.1)) 27 1 fs.length (by rw [List.length_map, Nat.mul_one]) hn, fun p hp => ?_⟩
  obtain ⟨A, c, h1, h2, h3⟩ := h p hp
  exact ⟨A, c, h1, h2, (h3.mono (S' := fun k => k < w.heap.size) fun k hk _ => hk).grown (below_grown (balloc w _) none) (fun k e => by cases e) |>.mono fun k _ hk e => absurd (show k = w.heap.size by injection e) (Nat.ne_of_lt (show k < w.heap.size from hk))⟩
theorem FrRow.app {b b2 : Nat} {fs fs2 : List (Value × List UInt8)} {v v' : Value} {w w' : World} (h : FrRow b fs v w) (h2 : ∀ p ∈ fs2, FrIs b2 p.2 p.1 w) (hv : ∀ k, b2 ≤ k → some k ≠ v.ownBlock)
    (hO : w'.ownsRow b 27 1 v' (fs.length + fs2.length) (fs.map (·.1) ++ fs2.map (·.1))) (hg : w.grownBy w' v.ownBlock) (hfr : v'.ownBlock = v.ownBlock ∨ v'.ownBlock = some w.heap.size) : FrRow b (fs ++ fs2) v' w' := by
  refine ⟨by rw [List.length_append, List.map_append]; exact hO, fun p hp => ?_⟩
  have key : ∃ A c, p.1 = .slice A p.2.length c ∧ p.2.length ≤ c ∧ RBS w (fun k => some k ≠ v.ownBlock) A p.2 := by
    rcases List.mem_append.1 hp with hp | hp
    · exact h.2 p hp
    · obtain ⟨A, c, h1, h3, h4⟩ := h2 p hp
      exact ⟨A, c, h1, h3, h4.mono fun k _ hk => hv k hk⟩
  obtain ⟨A, c, h1, h3, h4⟩ := key
  refine ⟨A, c, h1, h3, ((h4.mono (S' := fun k => some k ≠ v.ownBlock ∧ k < w.heap.size) fun k hk hS => ⟨hS, hk⟩).grown hg (fun k e hS => hS.1 e.symm)).mono fun k _ hS => ?_⟩
  rcases hfr with hf | hf
  · rw [hf]; exact hS.1
  · rw [hf]; intro e; injection e with e; omega
theorem info_bs : (Try.prog.info? 27).map (fun i => (i.zero, i.size, i.bytes)) = some (some nilV, 1, 24) := by kernel_rfl
theorem Has.appF {ops : Array Oper} {rest : List Oper} {o : Oper} {a : Act} {w : World} {Q : Exit → Act → World → Prop} {n : Nat} {l : List (Nat × Value)} (H : Has a n l) {s x : Operand} {t e : TypeId} {d base size bytes k m c : Nat} {z u : Value} {A : Option Addr} {xs ys : List Value} (hown : w.ownsRow base e size u k xs) (hi : (Try.prog.info? e).map (fun i => (i.zero, i.size, i.bytes)) = some (some z, size, bytes))
    (hr : Reads w w.heap.size size A m ys) (h1 : ∀ u ∈ ys, u.oneCell' = true) (hn : k + m ≤ maxLen) (hb : (k + m) * bytes ≤ 140737488355328) (hbase : base ≤ w.heap.size) (h : ∀ a' A' c' w', w'.ownsRow base e size (.slice A' (k + m) c') (k + m) (xs ++ ys) → w.grownBy w' u.ownBlock → ((Value.slice A' (k + m) c').ownBlock = u.ownBlock ∨ (Value.slice A' (k + m) c').ownBlock = some w.heap.size) → Has a' n ((d, .slice A' (k + m) c') :: l) → wpList Try.prog ops Q rest a' w')
    (ho : o.op = .call { callee := .builtin .append, args := #[s, x], argTypes := #[t, t] } := by rfl) (hd : o.dst = some d := by rfl) (hnn : Nat.blt d n = true := by rfl) (hg : o.guard = none := by rfl) (ht : Try.prog.underlying t = some (.slice e) := by kernel_rfl) (hzs : z.cells.size = size := by rfl) (hsz : 0 < size := by decide)
    (hs : evL l s = some u := by rfl) (hx : evL l x = some (.slice A m c) := by rfl) : wpList Try.prog ops Q (o :: rest) a w := by
  obtain ⟨A', c', w', hrun, hO, hgr, hfr⟩ := run_appF (a := a) ho ht hi hzs hsz (H.ev hs) hown (H.ev hx) hr h1 hn hb hbase
  exact H.go (gz hg) hd hnn _ hrun fun a' H' => h a' A' c' w' hO hgr hfr H'
/-- a constant's bytes: a literal, turned to its own type. -/
theorem Has.cs {ops : Array Oper} {rest : List Oper} {o1 o2 : Oper} {a : Act} {w : World} {Q : Exit → Act → World → Prop} {n : Nat} {l : List (Nat × Value)} (H : Has a n l) {d1 d2 : Nat} (xs : List UInt8) (vs : List Value) (hxs : vs = xs.map bv) (k : Nat) (hk : xs.length = k) (h : ∀ a' A w', Has a' n ((d2, .slice A k k) :: (d1, .slice A k k) :: l) → RB w' w'.heap.size A xs → Below w.heap.size w w' → wpList Try.prog ops Q rest a' w')
    (hd1 : o1.dst = some d1 := by rfl) (hn1 : Nat.blt d1 n = true := by rfl) (hg1 : o1.guard = none := by rfl) (hs : ∀ cs b, o1.op ≠ .select cs b := by intro cs b h; cases h) (hops : o1.op.operands.all (fun x => (evL l x).isSome) = true := by kernel_rfl)
    (hrun : (execOp (fun x => (evL l x).getD undef) o1).run Try.prog w = .ok (.value (.slice (some ⟨w.heap.size, 0, none⟩) k k)) (w.alloc (.cells vs.toArray 5)) := by kernel_rfl)
    (ho2 : o2.op = .convert 27 27 (.tmp d1) := by rfl) (hd2 : o2.dst = some d2 := by rfl) (hn2 : Nat.blt d2 n = true := by rfl) (hg2 : o2.guard = none := by rfl) : wpList Try.prog ops Q (o1 :: o2 :: rest) a w := by
  have hkc := Lib.run_convert_bytes_const (P := Try.prog) w 27 5 vs.toArray k k Try.underlying27 Try.underlying5
  refine H.go (gz hg1) hd1 hn1 _ (run_any H hs hops hrun) fun a1 H1 => ?_
  refine H1.go (w' := w.alloc (.cells vs.toArray 5 (vs.toArray.size, vs.toArray.size + 1))) (gz hg2) hd2 hn2 (.slice (some ⟨w.heap.size, 0, none⟩) k k) ?_ fun a2 H2 => h a2 _ _ H2 ?_ (balloc w _)
  · unfold execOp
    simp only [ho2, H1.ev (show evL ((d1, Value.slice (some ⟨w.heap.size, 0, none⟩) k k) :: l) (.tmp d1) = some (.slice (some ⟨w.heap.size, 0, none⟩) k k) by show (bif Nat.beq d1 d1 then _ else _) = _; rw [Nat.beq_refl, cond_true]), Sem.run_bind, hkc, Result.andThen_ok, Sem.run_pure]
  · subst hk
    exact RB.lit w 5 vs.toArray _ xs (by simpa using hxs)
/-- string(b) of what is read. -/
theorem strOf {w : World} {B : Nat} {A : Option Addr} {xs : List UInt8} (h : RB w B A xs) {n : Nat} (hn : xs.length = n) (c : Nat) : (convert 27 9 (.slice A n c)).run Try.prog w = .ok (.string ⟨xs.toArray⟩) w := by
  subst hn
  cases A with
  | none =>
    have h0 : xs = [] := by
      rcases Nat.eq_zero_or_pos xs.length with h0 | h0
      · exact List.eq_nil_of_length_eq_zero h0
      · obtain ⟨_, e, _⟩ := h.2 h0; cases e
    subst h0
    exact Lib.run_convert_nil_bytes w _ _ 5 c Try.underlying27 Try.underlying5 Try.underlying9
  | some ad =>
    refine run_convert_bytes_back w _ _ 5 ad c xs Try.underlying27 Try.underlying5 Try.underlying9 fun j hj => ?_
    obtain ⟨ad', x, e, _, hx, hc⟩ := h.at_ hj
    injection e with e
    subst e
    rw [hc]
    rw [List.getElem?_eq_getElem hj] at hx
    injection hx with hx
    rw [hx]
section
variable {ops : Array Oper} {Q : Exit → Act → World → Prop} {n : Nat} {l : List (Nat × Value)} {Wp : World → Prop} {i s : Nat} {v : Value} {o : Oper}
theorem jk {T T' : TypeId} {x : Operand} {u : Value} (hq : ∀ w, Wp w → (convert T T' u).run Try.prog w = .ok v w) (ho : ops[i]? = some o := by rfl) (hp : o.op = .convert T T' x := by rfl) (hd : o.dst = some s := by rfl) (hg : okG ops l o = true := by rfl) (hx : evL l x = some u := by rfl) : PureE ops Q n l Wp i s v :=
  fun _ _ w H hw hK => wpOp_go ho (okG_w H hg) s hd v w (run_conv hp (H.ev hx) (hq w hw)) hK
end
end Go.Proofs.Ytlacidnnankjlaa

/-
  From a walk to a row, for a law of one argument that answers a bool and leaves its argument alone; variables are listed.
-/
namespace Go.Proofs.Ytlacidnnankjlaa
open Go.ChangeShapes Go.WideShapes Go.ChangeAt Go.RowKit Go.Deep

theorem own_knob : ownKnob Try.prog.godebug = none := by kernel_rfl
theorem laid_out : laidOutB Try.prog = true := by kernel_rfl

section
variable {H : Type} {enc : TypeId × Value → H} {P : Program}
theorem post_of_below {f : Func} {s : ChangeSpec} {apart fresh handsOn again : Bool} {W W' : World} {args : Array Value} {v : Value} {ds gs : List (DataW H)} {before pa pv : List MemPlace}
    (hW : DataW.Whole enc P f.params.toList s.vars apart W args.toList ds gs before)
    (hres : ∀ (b : Nat) (sp : Nat → Bool) (hd : Bool), DataW.TrodAll enc P W' b sp hd f.resultTypes.toList (v.resultList f.resultTypes.size) (s.fn H (ds ++ gs)).results [])
    (hargs : ∀ sp : Nat → Bool, (∀ p ∈ before, sp p.block = true) → DataW.TrodAll enc P W' 0 sp true f.params.toList args.toList (s.fn H (ds ++ gs)).args pa)
    (hvars : ∀ sp : Nat → Bool, (∀ p ∈ before, sp p.block = true) → DataW.TrodVars enc P W' sp s.vars (s.fn H (ds ++ gs)).vars pv)
    (hps : before = pa ++ pv) (hb : Below W.heap.size W W')
    (hok : ∀ (j : Nat) (t : TypeId) (r : Value), f.resultTypes[j]? = some t → (v.resultList f.resultTypes.size)[j]? = some r → Value.okWide P W' .any 0 t r) :
    s.post enc P f apart fresh handsOn again W args v W' := by
  have hlt : ∀ p ∈ before, p.block < W.heap.size := fun p hp => hW.lt p hp
  have hold : ∀ p ∈ before, (fun b => decide (b < W.heap.size)) p.block = true := fun p hp => by simpa using hlt p hp
  refine ⟨ds, gs, before, [], pa, pv, hW, hres _ _ _, hargs _ hold, hvars _ hold, World.keptBut_mono (fun p hp => ⟨hp, ?_⟩) (hb.frame (· ∈ before)), fun _ => ?_⟩
  · rw [hps, List.mem_append] at hp
    exact Or.inr hp
  · obtain ⟨_, _, _, _, _, hz, hn⟩ := hW
    refine ⟨hok, _, _, ([] ++ pa) ++ pv, ⟨[] ++ pa, pv, trodAll_append (hargs _ (fun _ _ => rfl)) (hres _ _ _), hvars _ (fun _ _ => rfl), rfl, ?_, ?_⟩, ?_⟩
    · intro b off hp
      have hin : MemPlace.cell b off ∈ before := by rw [hps]; simpa using hp
      rw [hb.frozen (hlt _ hin)]
      exact hz b off hin
    · intro ha
      have := hn ha
      rw [hps] at this
      simpa using this
    · intro p hp _
      rw [hps]
      simpa using hp
end

/-- what a law's argument brings: the value, its reading, and that each part is within the form's reach. -/
def Comes {H : Type} (enc : TypeId × Value → H) (W : World) (T : TypeId) (v : Value) (d : DataW H) (p : List MemPlace) : Prop :=
  DataW.Trod enc Try.prog W 0 (fun _ => true) true T v d p ∧ (∃ base, Value.okWide Try.prog W .any base T v) ∧ (DataW.weightsEach Try.prog [T] [d]).all (· ≤ reachBytes) = true

section
theorem okw_slice {P : Program} {W : World} {T e : TypeId} {v : Value} (ht : P.underlying T = some (.slice e)) (h : ∃ base, Value.okWide P W .any base T v) : ∃ a len cap, v = .slice a len cap := by
  obtain ⟨b, hv⟩ := h
  exact okWide_slice ht hv
theorem ok_first {P : Program} {fn : Func} {W : World} {base : Nat} {T : TypeId} {args : Array Value} {v : Value} (hp : fn.params = #[T]) (ha : args[0]? = some v)
    (h : ∀ (j : Nat) t v, fn.params[j]? = some t → args[j]? = some v → Value.okWide P W .any base t v) : ∃ base, Value.okWide P W .any base T v := ⟨base, h 0 T v (by rw [hp]; rfl) ha⟩
theorem ok_bool {P : Program} {W : World} {Tb : TypeId} (hb : P.underlying Tb = some .bool) : ∀ (j : Nat) (t : TypeId) (r : Value), #[Tb][j]? = some t → ((Value.bool true).resultList 1)[j]? = some r → Value.okWide P W .any 0 t r := by
  intro j t r hj hr'
  match j, hj, hr' with
  | 0, hj, hr' =>
    simp [Value.resultList] at hj hr'
    subst hj; subst hr'
    exact okWide_bool_mk hb true
  | j + 1, hj, _ => simp at hj
/-- FROM A WALK TO THE LIFTED FORM, for a law that lists variables. -/
theorem laid_core {C : Checked} {K : FuncId} {fn : Func} {T Tb : TypeId} {s : ChangeSpec} {lay : List (String × DataW Unit)} (own : ownKnob C.prog.godebug = none) (hlo : laidOutB C.prog = true) (hK : C.prog.funcs[K]? = some fn) (hp : fn.params = #[T]) (hr : fn.resultTypes = #[Tb]) (hb : C.prog.underlying Tb = some .bool)
    (hvars : s.vars = []) (hfn : ∀ (H : Type) (d : DataW H), s.fn H [d] = { results := [.lit (.bool true)], args := [d] })
    (hT : C.prog.readableRec T = true) (hTs : T < C.prog.types.size) (noInit : C.prog.inits.idxOf? K = none)
    (walk : ∀ (H : Type) (enc : TypeId × Value → H) (W : World) (v : Value) (d : DataW H) (p : List MemPlace), DataW.Trod enc C.prog W 0 (fun _ => true) true T v d p → (∃ base, Value.okWide C.prog W .any base T v) → (DataW.weightsEach C.prog [T] [d]).all (· ≤ reachBytes) = true → laidMetH C.prog lay W → Calls C.prog K #[v] W fun e W' => e = .returned (.bool true) ∧ Below W.heap.size W W')
    (os : Os) (started : os.Started) (H : Type) (enc : TypeId × Value → H)
    (witness : ∃ (w : World) (tape : Tape) (i : Input), w.os = os ∧ (w.forCall tape i).Shaped C.prog ∧ i.vars = [] ∧ Input.okWide C.prog (w.forCall tape i) .any w.heap.size K i ∧
      ((s.pre enc C.prog fn [] false (w.forCall tape i).memory i.args ∧ laidMetH C.prog lay (w.forCall tape i).memory) ∧ sizedMet enc C.prog fn (OpenSpec.ofChange s) false (w.forCall tape i).memory i.args) ∧ ({} : Assume).holds C.prog (lone (Frame.enter C.prog K i.args .normal) [] (w.forCall tape i))) :
    ReturnsInHanded {} C os K .any (fun w args => (s.pre enc C.prog fn [] false w args ∧ laidMetH C.prog lay w) ∧ sizedMet enc C.prog fn (OpenSpec.ofChange s) false w args) (s.post enc C.prog fn false true false false) := by
  refine returnsInHanded_of_change_and (X := fun w _ => laidMetH C.prog lay w) (fun _ _ _ hh h => h.of_heap hh) own started noInit hK witness ?_
  intro W base args ds gs before hval0 hW _ hsz0 hL _
  have hW' := hW
  obtain ⟨p, q, hA, hV, rfl, _, _⟩ := hW
  rw [hvars] at hV
  obtain ⟨rfl, rfl⟩ := trodVars_none hV
  rw [hp] at hA
  obtain ⟨v, d, ha, rfl, h0⟩ := trodAll_one hA
  subst ha
  have hsz : (DataW.weightsEach C.prog [T] [d]).all (· ≤ reachBytes) = true := by
    have h : (DataW.weightsEach C.prog (fn.params.toList ++ s.plain.varTypes C.prog) ([d] ++ [])).all (· ≤ reachBytes) = true := hsz0
    rw [hp] at h
    simpa [DataSpec.varTypes, ChangeSpec.plain, hvars] using h
  have hlt : ∀ x ∈ p, x.block < W.heap.size := fun x hx => hW'.lt x (by simpa using hx)
  refine (walk H enc W v d p h0 (ok_first hp rfl hval0) hsz hL).mono fun e W' ⟨he, hbl⟩ => ?_
  refine ⟨_, he, post_of_below (pa := p) (pv := []) hW' ?_ ?_ ?_ (by simp) hbl ?_⟩
  · intro b sp hd
    rw [hr, List.append_nil, hfn]
    exact trodAll_mk1 (shut_bool hb true)
  · intro sp hsp
    rw [hp, List.append_nil, hfn]
    exact trodAll_mk1 (WideElems.Trod_stays hlo hT hTs h0 (fun x hx => hbl.same (hlt x hx)) (fun x hx => hsp x (by simpa using hx)))
  · intro sp _
    rw [hvars, List.append_nil, hfn]
    rfl
  · rw [hr]
    exact ok_bool hb
end
end Go.Proofs.Ytlacidnnankjlaa

/-
  From a walk to a row, for a law of one argument that answers a bool and leaves its argument alone; no variable is listed.
-/
namespace Go.Proofs.Ytlacidnnankjlaa
open Go.ChangeShapes Go.WideShapes Go.ChangeAt Go.RowKit Go.Deep

/-- FROM A WALK TO THE LIFTED FORM, for a law that lists no variable. -/
theorem plain_core {C : Checked} {K : FuncId} {fn : Func} {T Tb : TypeId} {s : ChangeSpec} (own : ownKnob C.prog.godebug = none) (hlo : laidOutB C.prog = true) (hK : C.prog.funcs[K]? = some fn) (hp : fn.params = #[T]) (hr : fn.resultTypes = #[Tb]) (hb : C.prog.underlying Tb = some .bool)
    (hvars : s.vars = []) (hfn : ∀ (H : Type) (d : DataW H), s.fn H [d] = { results := [.lit (.bool true)], args := [d] })
    (hT : C.prog.readableRec T = true) (hTs : T < C.prog.types.size) (noInit : C.prog.inits.idxOf? K = none)
    (walk : ∀ (H : Type) (enc : TypeId × Value → H) (W : World) (v : Value) (d : DataW H) (p : List MemPlace), DataW.Trod enc C.prog W 0 (fun _ => true) true T v d p → (∃ base, Value.okWide C.prog W .any base T v) → (DataW.weightsEach C.prog [T] [d]).all (· ≤ reachBytes) = true → Calls C.prog K #[v] W fun e W' => e = .returned (.bool true) ∧ Below W.heap.size W W')
    (os : Os) (started : os.Started) (H : Type) (enc : TypeId × Value → H)
    (witness : ∃ (w : World) (tape : Tape) (i : Input), w.os = os ∧ (w.forCall tape i).Shaped C.prog ∧ i.vars = [] ∧ Input.okWide C.prog (w.forCall tape i) .any w.heap.size K i ∧
      s.pre6 enc C.prog fn [] false (w.forCall tape i).memory i.args ∧ ({} : Assume).holds C.prog (lone (Frame.enter C.prog K i.args .normal) [] (w.forCall tape i))) :
    ReturnsInHanded {} C os K .any (s.pre6 enc C.prog fn [] false) (s.post enc C.prog fn false true false false) := by
  refine returnsInHanded_of_change_sized (C := C) own started noInit hK witness ?_
  intro W base args ds gs before hval0 hW _ hsz0 _
  have hW' := hW
  obtain ⟨p, q, hA, hV, rfl, _, _⟩ := hW
  rw [hvars] at hV
  obtain ⟨rfl, rfl⟩ := trodVars_none hV
  rw [hp] at hA
  obtain ⟨v, d, ha, rfl, h0⟩ := trodAll_one hA
  subst ha
  have hsz : (DataW.weightsEach C.prog [T] [d]).all (· ≤ reachBytes) = true := by
    have h : (DataW.weightsEach C.prog (fn.params.toList ++ s.plain.varTypes C.prog) ([d] ++ [])).all (· ≤ reachBytes) = true := hsz0
    rw [hp] at h
    simpa [DataSpec.varTypes, ChangeSpec.plain, hvars] using h
  have hlt : ∀ x ∈ p, x.block < W.heap.size := fun x hx => hW'.lt x (by simpa using hx)
  refine (walk H enc W v d p h0 (ok_first hp rfl hval0) hsz).mono fun e W' ⟨he, hbl⟩ => ?_
  refine ⟨_, he, post_of_below (pa := p) (pv := []) hW' ?_ ?_ ?_ (by simp) hbl ?_⟩
  · intro b sp hd
    rw [hr, List.append_nil, hfn]
    exact trodAll_mk1 (shut_bool hb true)
  · intro sp hsp
    rw [hp, List.append_nil, hfn]
    exact trodAll_mk1 (WideElems.Trod_stays hlo hT hTs h0 (fun x hx => hbl.same (hlt x hx)) (fun x hx => hsp x (by simpa using hx)))
  · intro sp _
    rw [hvars, List.append_nil, hfn]
    rfl
  · rw [hr]
    exact ok_bool hb
end Go.Proofs.Ytlacidnnankjlaa

/-
  How arguments read: bytes; slices whose elements take several cells, element by element.
-/
namespace Go.Proofs.Ytlacidnnankjlaa
open Go.ChangeShapes Go.WideShapes Go.ChangeAt Go.RowKit Go.Deep

theorem cells_u8 : Try.prog.cellsOf 5 = 1 := by kernel_rfl
theorem wf_byte {n : Int} (h : (Lit.int .u8 n).wf = true) : ∃ x : UInt8, n = (x.toNat : Int) := by
  have h1 : IntKind.u8.min = 0 := rfl
  have h2 : IntKind.u8.max = 255 := rfl
  simp only [Lit.wf, Bool.and_eq_true, decide_eq_true_eq] at h
  refine ⟨UInt8.ofNat n.toNat, ?_⟩
  rw [UInt8.toNat_ofNat']
  omega
theorem wf_i64 {n : Int} (h : (Lit.int .i64 n).wf = true) : -9223372036854775808 ≤ n ∧ n ≤ 9223372036854775807 := by
  have h1 : IntKind.i64.min = -9223372036854775808 := rfl
  have h2 : IntKind.i64.max = 9223372036854775807 := rfl
  simp only [Lit.wf, Bool.and_eq_true, decide_eq_true_eq] at h
  omega
theorem wf_u32 {n : Int} (h : (Lit.int .u32 n).wf = true) : ∃ s : Nat, n = (s : Int) ∧ s < 4294967296 := by
  have h1 : IntKind.u32.min = 0 := rfl
  have h2 : IntKind.u32.max = 4294967295 := rfl
  simp only [Lit.wf, Bool.and_eq_true, decide_eq_true_eq] at h
  exact ⟨n.toNat, by omega, by omega⟩

/-- each part of a datum is within the form's reach. -/
def Fit {H : Type} (t : TypeId) (d : DataW H) : Prop := ∀ n ∈ DataW.weights Try.prog t d, n ≤ 140737488351232
theorem Fit.of {H : Type} {T : TypeId} {d : DataW H} (h : (DataW.weightsEach Try.prog [T] [d]).all (· ≤ reachBytes) = true) : Fit T d := by
  intro n hn
  have := List.all_eq_true.1 h n (DataW.weights_mem_each (j := 0) rfl rfl n hn)
  have h2 : n ≤ reachBytes := by simpa using this
  exact h2
theorem Fit.slice {H : Type} {t e : TypeId} {elems spare : List (DataW H)} (h : Fit t (.slice elems spare)) (ht : Try.prog.underlying t = some (.slice e)) :
    (elems.length + spare.length) * Try.prog.bytesOf e ≤ 140737488351232 ∧ ∀ x ∈ elems, Fit e x := by
  have hw : DataW.weights Try.prog t (.slice elems spare) = (elems.length + spare.length) * Try.prog.bytesOf e :: (DataW.weightsAll Try.prog e elems ++ DataW.weightsAll Try.prog e spare) := by
    simp [DataW.weights, ht]
  unfold Fit at h
  rw [hw] at h
  refine ⟨h _ (by simp), fun x hx n hn => h n ?_⟩
  have : ∀ l : List (DataW H), x ∈ l → n ∈ DataW.weightsAll Try.prog e l := by
    intro l
    induction l with
    | nil => intro h; cases h
    | cons a r ih =>
      intro h
      simp only [DataW.weightsAll, List.mem_append]
      rcases List.mem_cons.1 h with rfl | h
      · exact Or.inl hn
      · exact Or.inr (ih h)
  simp [this elems hx]
theorem Fit.struct {H : Type} {t : TypeId} {fs : Array Field} {ys : List (DataW H × List MemPlace)} (h : Fit t (.agg (ys.map (·.1)))) (ht : Try.prog.underlying t = some (.struct fs)) (j : Nat) (f : Field) (hf : fs[j]? = some f) (y : DataW H × List MemPlace) (hy : ys[j]? = some y) : Fit f.type y.1 := by
  intro n hn
  refine h n ?_
  have hw : DataW.weights Try.prog t (.agg (ys.map (·.1))) = DataW.weightsEach Try.prog (fs.toList.map (·.type)) (ys.map (·.1)) := by simp [DataW.weights, ht]
  rw [hw]
  refine DataW.weights_mem_each (j := j) (t := f.type) (d := y.1) ?_ ?_ n hn
  · rw [List.getElem?_map]
    simp [hf]
  · rw [List.getElem?_map, hy]; rfl
theorem bytes_u8 : Try.prog.bytesOf 5 = 1 := by kernel_rfl

section
variable {H : Type} {enc : TypeId × Value → H} {W : World}
theorem list_bytes {zs : List Int} (h : ∀ n ∈ zs, (Lit.int .u8 n).wf = true) : ∃ xs : List UInt8, zs = xs.map (fun x => (x.toNat : Int)) := by
  induction zs with
  | nil => exact ⟨[], rfl⟩
  | cons z zs ih =>
    obtain ⟨xs, rfl⟩ := ih (fun n hn => h n (List.mem_cons_of_mem _ hn))
    obtain ⟨x, hx⟩ := wf_byte (h z (List.mem_cons_self ..))
    exact ⟨x :: xs, by rw [hx]; rfl⟩
/-- bytes that came in. -/
theorem read_bytes {n : Nat} {cs : List Value} {x : DataW H × List MemPlace} (hfit : Fit 27 x.1) (h : DataW.trod enc Try.prog W 0 (fun _ => true) true n 27 cs = some x) :
    ∃ (xs : List UInt8) (A : Option Addr) (c : Nat), cs = [.slice A xs.length c] ∧ xs.length ≤ c ∧ c ≤ 140737488351232 ∧ RB W W.heap.size A xs := by
  rcases open_ints Try.underlying27 Try.underlying5 cells_u8 h with ⟨hcs, _⟩ | ⟨a, len, cap, zs, hcs, _, hl, _, hz, hxe, hc, hw⟩
  · exact ⟨[], none, 0, hcs, by simp, by simp, RB.nil⟩
  · obtain ⟨xs, rfl⟩ := list_bytes hw
    simp only [if_true, List.length_map] at hz
    have hm : cap ≤ 140737488351232 := by
      rw [hxe] at hfit
      have := (hfit.slice Try.underlying27).1
      rw [bytes_u8] at this
      simp [lits] at this
      omega
    refine ⟨xs.take len, some a, cap, ?_, ?_, hm, ?_, ?_⟩
    · rw [hcs, List.length_take, Nat.min_eq_left (by omega)]
    · rw [List.length_take]; omega
    · simp
    · intro hn
      rw [List.length_take] at hn
      have h0 := hc 0 (by simp; omega)
      have hlt : a.block < W.heap.size := by
        have := World.block_lt_of_cell? W _ h0
        rwa [block_of_add] at this
      refine ⟨a, rfl, hlt, ?_⟩
      intro j u hu
      have hj : j < (xs.take len).length := by
        rcases Nat.lt_or_ge j (xs.take len).length with h1 | h1
        · exact h1
        · rw [List.getElem?_eq_none (by simpa using h1)] at hu; cases hu
      rw [List.length_take] at hj
      have hjx : j < xs.length := by omega
      rw [hc j (by simpa using hjx)]
      rw [List.getElem?_map, List.getElem?_take_of_lt (by omega), List.getElem?_eq_getElem hjx] at hu
      simp only [Option.map_some, Option.some.injEq] at hu
      rw [← hu]
      simp [List.getD, List.getElem?_eq_getElem hjx]

/-- a slice whose elements take m cells each (m not 0), element by element. -/
theorem read_rows {T e : TypeId} {m : Nat} {v : Value} {d : DataW H} {p : List MemPlace} (ht : Try.prog.underlying T = some (.slice e)) (hm : Try.prog.cellsOf e = m) (hm0 : 0 < m) (h : Comes enc W T v d p) :
    ∃ (A : Option Addr) (len cap fuel : Nat), v = .slice A len cap ∧ len ≤ cap ∧ cap ≤ maxLen ∧ ∀ i, i < len → ∃ (b o : Nat) (cs : List Value) (x : DataW H × List MemPlace), A = some ⟨b, o, none⟩ ∧ b < W.heap.size ∧ cs.length = m ∧ (∀ j, j < m → W.cell? ⟨b, o + i * m + j, none⟩ = cs[j]?) ∧
      DataW.trod enc Try.prog W 0 (fun _ => true) true fuel e cs = some x ∧ Fit e x.1 := by
  obtain ⟨⟨fuel, hf⟩, hvb, hsz⟩ := h
  obtain ⟨a0, len, cap, rfl⟩ := okw_slice ht hvb
  rcases open_slice ht hf with ⟨hcs, _⟩ | ⟨a, len', cap', m', n, D, Pl, hcs, _, hl, hc, hmm, hxe, hi⟩
  · simp [Value.cells] at hcs
    obtain ⟨rfl, rfl, rfl⟩ := hcs
    exact ⟨none, 0, 0, 0, rfl, by omega, by simp, fun i hi => absurd hi (by omega)⟩
  · simp [Value.cells] at hcs
    obtain ⟨rfl, rfl, rfl⟩ := hcs
    simp only [if_true] at hmm
    refine ⟨some a, len, cap, n, rfl, hl, hc, fun i hlt => ?_⟩
    obtain ⟨cs', hcell, htr⟩ := hi i (by omega)
    obtain ⟨_, hlen, hat⟩ := World.cells?_some hcell
    rw [hm] at hlen
    have h0 := hat 0 (by omega)
    rw [List.getElem?_eq_getElem (by omega)] at h0
    obtain ⟨b, o, spot⟩ := a
    have hspot : spot = none := by
      obtain ⟨cs0, hcell0, _⟩ := hi 0 (by omega)
      obtain ⟨_, hlen0, hat0⟩ := World.cells?_some hcell0
      rw [hm] at hlen0
      have h00 := hat0 0 (by omega)
      rw [List.getElem?_eq_getElem (by omega)] at h00
      have := World.cell?_spot h00
      simpa [Addr.add] using this
    subst hspot
    have hb := World.block_lt_of_cell? W _ h0
    rw [block_of_add, block_of_add] at hb
    refine ⟨b, o, cs', _, rfl, hb, hlen, fun j hj => ?_, htr, ?_⟩
    rotate_left
    · simp only [Prod.mk.injEq] at hxe
      have hft := Fit.of hsz
      rw [hxe.1] at hft
      exact (hft.slice ht).2 _ (List.mem_map.2 ⟨i, List.mem_range.2 hlt, rfl⟩)
    have := hat j (by omega)
    rw [add_add, hm] at this
    rw [← this]
    refine congrArg W.cell? ?_
    unfold Addr.add
    by_cases h1 : i * m + j = 0
    · rw [if_pos h1, Nat.add_assoc, h1]; simp
    · rw [if_neg h1, Nat.add_assoc]
end

theorem okw_struct {P : Program} {W : World} {T : TypeId} {fs : Array Field} {v : Value} (ht : P.underlying T = some (.struct fs)) (h : ∃ base, Value.okWide P W .any base T v) : ∃ cs, v = .agg cs ∧ cs.size = P.cellsOf T := by
  obtain ⟨b, hv⟩ := h
  unfold Value.okWide at hv
  rw [ht] at hv
  obtain ⟨cs, h1, h2, _⟩ := hv
  exact ⟨cs, h1, h2⟩
end Go.Proofs.Ytlacidnnankjlaa
