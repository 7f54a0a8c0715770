/-
  What both parsers need: slices of the bytes, bytes.Equal, a packet's rows as its lists, what is read is small.
-/
import Derived.Test.YtkcdkjpmbjcmdaaDoorRows
import Derived.ProofKit
import Derived.SizedLaws
import Derived.Carry
import Derived.ChangeSame
import Derived.Deep.Slices
import Derived.Deep.Fields
import Derived.LaidMore
import Derived.LaidLaws
import Derived.Handed
import Derived.Stop.Joined
import Derived.Deep.Strs
import Derived.Deep.SlicePairs
import Derived.Test.YtkcdkjpmbjcmdaaDoorFp3
namespace Go.Proofs.YtkcdkjpmbjcmdaaDoor
open Go.RowKit

theorem slice_lh (A : Option Addr) (n c lo hi : Nat) (h1 : lo ≤ hi) (h2 : hi ≤ n) (h3 : n ≤ c) (w : World) : (Instr.sliceAt 31 (.slice A n c) (some (.int .i64 (lo : Int))) (some (.int .i64 (hi : Int))) none).run Tryd.prog w = .ok (.slice (if c = lo then A else A.map (·.add lo)) (hi - lo) (c - lo)) w := by
  simp [go_sem]
  rw [if_pos (by omega), if_pos h1]
theorem slice_h (A : Option Addr) (n c hi : Nat) (h2 : hi ≤ n) (h3 : n ≤ c) (w : World) : (Instr.sliceAt 31 (.slice A n c) none (some (.int .i64 (hi : Int))) none).run Tryd.prog w = .ok (.slice A hi c) w := by
  simp [go_sem]
  intro h
  omega
set_option maxRecDepth 100000 in
theorem index_0 (b o n c : Nat) (hn : 0 < n) (w : World) : (Instr.indexAt 31 (.slice (some ⟨b, o, none⟩) n c) (.int .i64 0)).run Tryd.prog w = .ok (.pointer (some ⟨b, o, none⟩)) w := by
  have h := index_1 31 Tryd.underlying31 (fun _ => by kernel_rfl) b o n c 0 hn w
  have e : ((0 : Nat) : Int) = 0 := rfl
  rw [e, Nat.add_zero] at h
  exact h
section
variable {P : Program} {o : Oper} {a : Act} {w : World}
theorem run_slice {T : Nat} {x lo hi : Operand} {u v y r : Value} (ho : o.op = .slice T x (some lo) (some hi) none) (hx : a.eval x = u) (hl : a.eval lo = v) (hh : a.eval hi = y) (hq : (Instr.sliceAt T u (some v) (some y) none).run P w = .ok r w) : (execOp a.eval o).run P w = .ok (.value r) w := by
  unfold execOp
  simp only [ho, hx, Option.map_some, Option.map_none, hl, hh, Sem.run_bind, hq, Result.andThen_ok, Sem.run_pure]
theorem run_slice_h {T : Nat} {x hi : Operand} {u y r : Value} (ho : o.op = .slice T x none (some hi) none) (hx : a.eval x = u) (hh : a.eval hi = y) (hq : (Instr.sliceAt T u none (some y) none).run P w = .ok r w) : (execOp a.eval o).run P w = .ok (.value r) w := by
  unfold execOp
  simp only [ho, hx, Option.map_some, Option.map_none, hh, Sem.run_bind, hq, Result.andThen_ok, Sem.run_pure]
end
theorem neq_35 (u v : Int) (b : Bool) (h : (u != v) = b) (x y : Operand) (w : World) : (do eqGuard .neq 35 x y (.int .i64 u) (.int .i64 v); binOp .neq 35 (.int .i64 u) (.int .i64 v) : Sem Value).run Tryd.prog w = .ok (.bool b) w := by
  rw [← h]
  simp [go_sem]
theorem bytesEq (xs ys : List UInt8) (u v : Value) (w : World) (hu : BytesAre xs u w) (hv : BytesAre ys v w) :
    Calls Tryd.prog 63 #[u, v] w fun e w' => e = .returned (.bool (decide (xs = ys))) ∧ w = w' := by
  obtain ⟨A, c, rfl, hx⟩ := hu
  obtain ⟨B, d, rfl, hy⟩ := hv
  go_enter Tryd.func63, Tryd.ntmps63
  refine Has.start 10 [(0, .slice A xs.length c), (1, .slice B ys.length d)] rfl rfl ⟨rfl, rfl, trivial⟩ ?_
  intro a0 H0
  refine H0.rg 1 fun a1 H1 => nt ?_
  refine H1.rg 1 fun a2 H2 => ?_
  refine H2.conv gz rfl rfl rfl rfl (run_string_of Tryd.underlying31 Tryd.underlying5 Tryd.underlying9 hx rfl c) ?_
  intro a3 H3
  refine H3.ms 1 fun a4 H4 => ?_
  refine H4.conv gz rfl rfl rfl rfl (run_string_of Tryd.underlying31 Tryd.underlying5 Tryd.underlying9 hy rfl d) ?_
  intro a5 H5
  refine H5.bn 1 (eql_s _ _ _ _ _) fun a7 H7 => nt ?_
  refine wp_ret ?_
  refine bodyPost_ret (results_tmp rfl _ _ _) H7.df ⟨?_, rfl⟩
  have e : ((mkS xs).toList == (mkS ys).toList) = decide (xs = ys) := by
    rw [Lib.toList_data, Lib.toList_data, Bool.eq_iff_iff, beq_iff_eq, decide_eq_true_eq]
  rw [← e]
  exact congrArg Ending.returned (H7.at_ 4 _ rfl)

/-! what is read is small -/
structure Small (m : Mq) : Prop where
  client : m.client.size ≤ 1000000
  wt : m.wt.size ≤ 1000000
  wp : m.wp.size ≤ 1000000
  user : m.user.size ≤ 1000000
  pass : m.pass.size ≤ 1000000
  topic : m.topic.size ≤ 1000000
  payload : m.payload.size ≤ 1000000
  wishes : ∀ s ∈ m.wishes, s.1.size ≤ 1000000
  filters : ∀ s ∈ m.filters, s.size ≤ 1000000
theorem Small.fit {m : Mq} (h : Small m) : MqFit m :=
  ⟨Nat.le_trans h.client (by decide), Nat.le_trans h.wt (by decide), Nat.le_trans h.wp (by decide), Nat.le_trans h.user (by decide), Nat.le_trans h.pass (by decide), Nat.le_trans h.topic (by decide), Nat.le_trans h.payload (by decide),
    fun s hs => Nat.le_trans (h.wishes s hs) (by decide), fun s hs => Nat.le_trans (h.filters s hs) (by decide)⟩
theorem nosz : nos.size ≤ 1000000 := by decide
theorem small0 (k : Int) : Small (mq0 k) := ⟨nosz, nosz, nosz, nosz, nosz, nosz, nosz, (fun s hs => by cases hs), (fun s hs => by cases hs)⟩
/-- what a reader reads as text is small. -/
def Shorts (text : Rd → ByteArray × Rd) : Prop := ∀ s, (text s).1.size ≤ 1000000
theorem mkS_size (xs : List UInt8) : (mkS xs).size = xs.length := by simp [ByteArray.size]
theorem takeP_length (s : Rd) (n : Nat) : (takeP s n).1.length = n := by unfold takeP; split <;> simp <;> omega
theorem takeR_length (s : Rd) (n : Nat) : (takeR s n).1.length = n := by unfold takeR; split <;> simp <;> omega
theorem shortsP : Shorts textP := by
  intro s
  unfold textP
  rw [mkS_size, takeP_length]
  have := twoP_lt s
  omega
theorem shortsR : Shorts textR := by
  intro s
  unfold textR
  rw [mkS_size, takeR_length]
  have := numR_lt s
  omega
theorem small_conn {one : Rd → UInt8 × Rd} {two : Rd → Nat × Rd} {text : Rd → ByteArray × Rd} (h : Shorts text) (s : Rd) : Small (connOf one two text s).mq := by
  unfold connOf
  simp only [Conn.mq]
  refine ⟨h _, ?_, ?_, ?_, ?_, nosz, nosz, (fun s hs => by cases hs), (fun s hs => by cases hs)⟩
  all_goals (simp only []; split <;> first | exact h _ | exact nosz)
theorem small_loopP (k : Int) : ∀ (f : Nat) (m : Mq) (s : Rd), Small m → Small (loopP k f m s).1 := by
  intro f
  induction f with
  | zero => intro m s h; exact h
  | succ f ih =>
    intro m s h
    rw [loopP]
    split
    · split
      · refine ih _ _ ⟨h.client, h.wt, h.wp, h.user, h.pass, h.topic, h.payload, fun x hx => ?_, h.filters⟩
        rcases List.mem_append.1 hx with hx | hx
        · exact h.wishes x hx
        · simp only [List.mem_singleton] at hx
          subst hx
          exact shortsP _
      · split
        · exact ih _ _ ⟨h.client, h.wt, h.wp, h.user, h.pass, h.topic, h.payload, h.wishes, h.filters⟩
        · refine ih _ _ ⟨h.client, h.wt, h.wp, h.user, h.pass, h.topic, h.payload, h.wishes, fun x hx => ?_⟩
          rcases List.mem_append.1 hx with hx | hx
          · exact h.filters x hx
          · simp only [List.mem_singleton] at hx
            subst hx
            exact shortsP _
    · exact h
theorem small_loopR (k : Int) : ∀ (f : Nat) (m : Mq) (s : Rd), Small m → Small (loopR k f m s).1 := by
  intro f
  induction f with
  | zero => intro m s h; exact h
  | succ f ih =>
    intro m s h
    rw [loopR]
    split
    · split
      · refine ih _ _ ⟨h.client, h.wt, h.wp, h.user, h.pass, h.topic, h.payload, fun x hx => ?_, h.filters⟩
        rcases List.mem_append.1 hx with hx | hx
        · exact h.wishes x hx
        · simp only [List.mem_singleton] at hx
          subst hx
          exact shortsR _
      · split
        · exact ih _ _ ⟨h.client, h.wt, h.wp, h.user, h.pass, h.topic, h.payload, h.wishes, h.filters⟩
        · split
          · refine ih _ _ ⟨h.client, h.wt, h.wp, h.user, h.pass, h.topic, h.payload, h.wishes, fun x hx => ?_⟩
            rcases List.mem_append.1 hx with hx | hx
            · exact h.filters x hx
            · simp only [List.mem_singleton] at hx
              subst hx
              exact shortsR _
          · exact ih _ _ h
    · exact h
theorem takeP_left (s : Rd) (n : Nat) : (takeP s n).2.1.length ≤ s.1.length := by unfold takeP; split <;> simp
theorem takeR_left (s : Rd) (n : Nat) : (takeR s n).2.1.length ≤ s.1.length := by unfold takeR; split <;> simp
theorem small_readP (k : Int) (f : UInt8) (s : Rd) (h : s.1.length ≤ 1000000) : Small (readP k f s).1 := by
  unfold readP
  split
  · exact small_conn shortsP _
  · split
    · exact ⟨nosz, nosz, nosz, nosz, nosz, nosz, nosz, (fun s hs => by cases hs), (fun s hs => by cases hs)⟩
    · split
      · refine ⟨nosz, nosz, nosz, nosz, nosz, ?_, ?_, (fun s hs => by cases hs), (fun s hs => by cases hs)⟩
        · exact shortsP _
        · simp only [pubP, pubMq]
          rw [mkS_size, takeP_length]
          split
          · have h1 := takeP_left (oneP (oneP (textP s).2).2).2 0
            have h2 : (twoP (textP s).2).2.1.length ≤ (textP s).2.1.length := twoP_le _
            have h3 := textP_le s
            omega
          · have h3 := textP_le s
            omega
      · split
        · exact small_loopP _ _ _ _ ⟨nosz, nosz, nosz, nosz, nosz, nosz, nosz, (fun s hs => by cases hs), (fun s hs => by cases hs)⟩
        · split
          · exact ⟨nosz, nosz, nosz, nosz, nosz, nosz, nosz, (fun s hs => by cases hs), (fun s hs => by cases hs)⟩
          · exact small0 k
/-- how long the lists are. -/
def Lens (m : Mq) (n : Nat) : Prop := m.codes.length ≤ n ∧ m.wishes.length ≤ n ∧ m.filters.length ≤ n
theorem lens_loopP (k : Int) : ∀ (f : Nat) (m : Mq) (s : Rd) (n : Nat), Lens m n → Lens (loopP k f m s).1 (n + f) := by
  intro f
  induction f with
  | zero => intro m s n h; exact h
  | succ f ih =>
    intro m s n h
    rw [loopP]
    have up : ∀ m', Lens m' (n + 1) → ∀ s, Lens (loopP k f m' s).1 (n + (f + 1)) := fun m' h' s => by
      have := ih m' s (n + 1) h'
      rwa [show n + 1 + f = n + (f + 1) by omega] at this
    obtain ⟨a, b, c⟩ := h
    split
    · split
      · exact up _ ⟨by simp only []; omega, by simp only [List.length_append, List.length_singleton]; omega, by simp only []; omega⟩ _
      · split
        · exact up _ ⟨by simp only [List.length_append, List.length_singleton]; omega, by simp only []; omega, by simp only []; omega⟩ _
        · exact up _ ⟨by simp only []; omega, by simp only []; omega, by simp only [List.length_append, List.length_singleton]; omega⟩ _
    · exact ⟨Nat.le_trans a (by omega), Nat.le_trans b (by omega), Nat.le_trans c (by omega)⟩
theorem lens_loopR (k : Int) : ∀ (f : Nat) (m : Mq) (s : Rd) (n : Nat), Lens m n → Lens (loopR k f m s).1 (n + f) := by
  intro f
  induction f with
  | zero => intro m s n h; exact h
  | succ f ih =>
    intro m s n h
    rw [loopR]
    have up : ∀ m', Lens m' (n + 1) → ∀ s, Lens (loopR k f m' s).1 (n + (f + 1)) := fun m' h' s => by
      have := ih m' s (n + 1) h'
      rwa [show n + 1 + f = n + (f + 1) by omega] at this
    obtain ⟨a, b, c⟩ := h
    split
    · split
      · exact up _ ⟨by simp only []; omega, by simp only [List.length_append, List.length_singleton]; omega, by simp only []; omega⟩ _
      · split
        · exact up _ ⟨by simp only [List.length_append, List.length_singleton]; omega, by simp only []; omega, by simp only []; omega⟩ _
        · split
          · exact up _ ⟨by simp only []; omega, by simp only []; omega, by simp only [List.length_append, List.length_singleton]; omega⟩ _
          · exact up _ ⟨by omega, by omega, by omega⟩ _
    · exact ⟨Nat.le_trans a (by omega), Nat.le_trans b (by omega), Nat.le_trans c (by omega)⟩
theorem lens_readP (k : Int) (f : UInt8) (s : Rd) (h : s.1.length ≤ 1000000) : Lens (readP k f s).1 1000001 := by
  have z : ∀ m : Mq, m.codes = [] → m.wishes = [] → m.filters = [] → Lens m 1000001 := fun m a b c => ⟨by simp [a], by simp [b], by simp [c]⟩
  unfold readP
  split
  · exact z _ rfl rfl rfl
  · split
    · exact z _ rfl rfl rfl
    · split
      · exact z _ rfl rfl rfl
      · split
        · have h2 : (twoP s).2.1.length ≤ s.1.length := twoP_le _
          obtain ⟨a, b, c⟩ := lens_loopP k ((twoP s).2.1.length + 1) { mq0 k with id := ((twoP s).1 : Int) } (twoP s).2 0 ⟨Nat.zero_le _, Nat.zero_le _, Nat.zero_le _⟩
          exact ⟨by omega, by omega, by omega⟩
        · split
          · exact z _ rfl rfl rfl
          · exact z _ rfl rfl rfl
theorem MqL.of_rows {w : World} {b : Nat} {m : Mq} {vc vw vf : Value} (h : Rows3 w b m vc vw vf) {n : Nat} (hl : Lens m n) (hn : n ≤ 140737488351232) : MqL w w.heap.size m vc vw vf := by
  obtain ⟨h1, h2, h3⟩ := h
  obtain ⟨l1, l2, l3⟩ := hl
  obtain ⟨A1, c1, rfl, a1, _⟩ := own_shape h1
  obtain ⟨A2, c2, rfl, a2, _⟩ := own_shape h2
  obtain ⟨A3, c3, rfl, a3, _⟩ := own_shape h3
  exact ⟨A1, c1, A2, c2, A3, c3, rfl, rfl, rfl, a1, a2, a3, by omega, by omega, by omega, Reads.of_own h1, Reads.of_own h2, Reads.of_own h3⟩
end Go.Proofs.YtkcdkjpmbjcmdaaDoor

/-
  pack.Parse.
-/
namespace Go.Proofs.YtkcdkjpmbjcmdaaDoor
open Go.RowKit

/-- what a parser answers. -/
def ParseSaid (xs : List UInt8) (w : World) (e : Ending) (w' : World) : Prop :=
  ∃ m n er vc vw vf, Parsed xs m n er ∧ e = .returned (.tuple #[.agg (mqCells m vc vw vf).toArray, .int .i64 ((n : Nat) : Int), .int .i64 er]) ∧ (Rows3 w' w.heap.size m vc vw vf ∧ Lens m 1000001) ∧ Small m ∧ Below w.heap.size w w'
theorem none_rows (w : World) (b : Nat) (k : Int) : Rows3 w b (mq0 k) nilV nilV nilV ∧ Lens (mq0 k) 1000001 := ⟨rows_nil w b rfl rfl rfl, Nat.zero_le _, Nat.zero_le _, Nat.zero_le _⟩
theorem results_m2 {P : Program} {fn : Func} {p q r : Tmp} {T : TypeId} (h : fn.results = #[.cell p T, .tmp q, .tmp r]) (tmps : Array Value) {w : World} {g : Nat} {l : List Value} {d : TypeDesc} {u v : Value} (hp : tmps.getD p undef = .pointer (some ⟨g, 0, none⟩)) (hq : tmps.getD q undef = u) (hr : tmps.getD r undef = v) (hC : Cells w g l)
    (hu : P.underlying T = some d) (hd : d.isRow = true) {n : Nat} (hi : (P.info? T).map (·.size) = some n) (hl : l.length = n) : (results fn tmps).run P w = .ok (.tuple #[.agg l.toArray, u, v]) w := by
  rw [← hl] at hi
  have hp' : tmps[p]?.getD undef = .pointer (some ⟨g, 0, none⟩) := by simpa using hp
  have hq' : tmps[q]?.getD undef = u := by simpa using hq
  have hr' : tmps[r]?.getD undef = v := by simpa using hr
  simp [results, h, hp', hq', hr', asAddr, run_loadVar_mid w g 0 T l d hC.range hu hd hi]
theorem sizeGo_err : ∀ (f i n : Nat) (l : List UInt8) (er : Int), sizeGo f i n l = .error er → er = 7 ∨ er = 1 ∨ er = 2 := by
  intro f
  induction f with
  | zero => intro i n l er h; cases l <;> simp [sizeGo] at h <;> omega
  | succ f ih =>
    intro i n l er h
    cases l with
    | nil => simp [sizeGo] at h; omega
    | cons x r =>
      rw [sizeGo] at h
      split at h
      · split at h
        · injection h with h; omega
        · exact ih _ _ _ _ h
      · split at h
        · injection h with h; omega
        · split at h
          · injection h with h; omega
          · split at h
            · injection h with h; omega
            · cases h
theorem sizeD_err {xs : List UInt8} {er : Int} (h : sizeD xs = .error er) : (er != 0) = true := by
  have : er = 7 ∨ er = 1 ∨ er = 2 := by
    cases xs with
    | nil => injection h with h; omega
    | cons x r => exact sizeGo_err _ _ _ _ _ h
  rw [bne_iff_ne]
  omega
theorem parsed_err {xs : List UInt8} {er : Int} (h : sizeD xs = .error er) : Parsed xs (mq0 0) 0 er := by
  unfold Parsed
  rw [h]
  exact ⟨rfl, rfl, rfl⟩
theorem sizeC (xs : List UInt8) (A : Option Addr) (c : Nat) (r : Except Int (Nat × Nat)) (h : sizeD xs = r) (w : World) (hr : RB w w.heap.size A xs) (hl : xs.length ≤ 140737488351232) :
    Calls Tryd.prog 61 #[.slice A xs.length c] w fun e w' => e = .returned (sized r) ∧ w = w' := by
  subst h
  exact (packSize xs A c w hr hl).mono fun _ _ h => ⟨h.1, h.2.symm⟩
theorem head_of {xs : List UInt8} {x : UInt8} (h : xs[0]? = some x) : xs.headD 0 = x := by
  cases xs with
  | nil => simp at h
  | cons y r => simpa using h
theorem fieldX87_1 (g : Nat) (w : World) : (Instr.fieldAt 87 (.pointer (some ⟨g, 0, none⟩)) 1).run Tryd.prog w = .ok (.pointer (some ⟨g, 1, none⟩)) w := by kernel_rfl
set_option maxRecDepth 100000 in
theorem and15_n (x : Fin 256) : bits .and .u8 (x.val : Int) 15 = ((x.val % 16 : Nat) : Int) := by
  revert x
  decide
theorem loB_nat (x : UInt8) : (loB x).toNat = x.toNat % 16 := by
  unfold loB
  rw [UInt8.toNat_and]
  exact Nat.and_two_pow_sub_one_eq_mod x.toNat 4
theorem and15_u (x : UInt8) (a b : Operand) (w : World) : (do eqGuard .and 5 a b (.int .u8 (x.toNat : Int)) (.int .u8 15); binOp .and 5 (.int .u8 (x.toNat : Int)) (.int .u8 15) : Sem Value).run Tryd.prog w = .ok (.int .u8 ((loB x).toNat : Int)) w := by
  have e := and15_n ⟨x.toNat, x.toNat_lt⟩
  simp only [] at e
  rw [loB_nat, ← e]
  simp [go_sem]
theorem shr4_u (x : UInt8) (a b : Operand) (w : World) : (do eqGuard .shr 5 a b (.int .u8 (x.toNat : Int)) (.int .u64 4); binOp .shr 5 (.int .u8 (x.toNat : Int)) (.int .u64 4) : Sem Value).run Tryd.prog w = .ok (.int .u8 ((x.toNat / 16 : Nat) : Int)) w := by
  have := x.toNat_lt
  simp [go_sem]
/-- while a packet is read: the result's box stands. -/
structure ParMid (W : World) (g6 : Nat) (s : Rd) (w : World) : Prop where
  bel : Below W.heap.size W w
  rd : RdAt w W.heap.size g6 s
  box : Cells w W.heap.size (mqCells (mq0 0) nilV nilV nilV)
  lt : W.heap.size < w.heap.size
  ne : W.heap.size ≠ g6
theorem ParMid.drew {W w : World} {g6 : Nat} {s : Rd} (h : ParMid W g6 s w) : ParMid W g6 s w.drew :=
  ⟨h.bel.drew, h.rd.below (Below.drew (Below.refl _ _)), h.box.below (Below.drew (Below.refl _ _)) h.lt, h.lt, h.ne⟩
theorem ParMid.call {W w w' : World} {g6 : Nat} {s s' : Rd} (h : ParMid W g6 s w) (hr : RdAt w' W.heap.size g6 s') (hg : w.grownBy w' (some g6)) : ParMid W g6 s' w' :=
  ⟨h.bel.grown hg (Nat.le_of_lt h.lt) (fun k hk => by injection hk with hk; rw [← hk]; exact h.rd.lts.1), hr, h.box.kept hg h.lt (fun e => h.ne (by injection e)), Nat.lt_of_lt_of_le h.lt hg.size, h.ne⟩
structure ParEnd (W : World) (g6 : Nat) (r : Mq × Rd) (vc vw vf : Value) (w : World) : Prop where
  bel : Below W.heap.size W w
  rd : RdAt w W.heap.size g6 r.2
  box : Cells w W.heap.size (mqCells r.1 vc vw vf)
  lt : W.heap.size < w.heap.size
  rows : Rows3 w (W.heap.size + 1) r.1 vc vw vf
theorem ParMid.fin {W w w' : World} {g6 : Nat} {r : Mq × Rd} {vc vw vf : Value} (h : ParMid W g6 r.2 w) (hr : Rows3 w (W.heap.size + 1) r.1 vc vw vf) (hg : w.grownBy w' (some W.heap.size)) (hs : w'.heap.size = w.heap.size) (hC : Cells w' W.heap.size (mqCells r.1 vc vw vf)) : ParEnd W g6 r vc vw vf w' := by
  have k : ∀ {e : TypeId} {size n : Nat} {v : Value} {xs : List Value}, w.ownsRow (W.heap.size + 1) e size v n xs → w'.ownsRow (W.heap.size + 1) e size v n xs := fun h =>
    h.kept hg (Or.inr (Ne.symm (own_ne h (Or.inl (by omega)))))
  exact ⟨h.bel.grown hg (Nat.le_of_lt h.lt) (fun k hk => by injection hk with hk; rw [← hk]; exact Nat.le_refl _), h.rd.kept hg (fun k hk => by injection hk with hk; rw [← hk]; exact Nat.le_refl _) (fun e => h.ne (by injection e with e; exact e.symm)), hC, by rw [hs]; exact h.lt, k hr.1, k hr.2.1, k hr.2.2⟩
structure ParSix (W : World) (g6 : Nat) (r : Mq × Rd) (vc vw vf : Value) (w : World) : Prop where
  bel : Below W.heap.size W w
  bad : w.cell? ⟨g6, 1, none⟩ = some (.bool r.2.2)
  lt6 : g6 < w.heap.size
  box : Cells w W.heap.size (mqCells r.1 vc vw vf)
  lt : W.heap.size < w.heap.size
  rows : Rows3 w (W.heap.size + 1) r.1 vc vw vf
  len : Lens r.1 1000001
theorem ParSix.lists {W w : World} {g6 : Nat} {r : Mq × Rd} {vc vw vf : Value} (h : ParSix W g6 r vc vw vf w) : MqL w w.heap.size r.1 vc vw vf := MqL.of_rows h.rows h.len (by decide)
theorem ParSix.one {W w : World} {g6 : Nat} {r : Mq × Rd} {vc vw vf : Value} (h : ParSix W g6 r vc vw vf w) : (mqCells r.1 vc vw vf).all (·.oneCell') = true := mq_one _ (own_one h.rows.1) (own_one h.rows.2.1) (own_one h.rows.2.2)
theorem ParEnd.six {W w : World} {g6 : Nat} {r : Mq × Rd} {vc vw vf : Value} (h : ParEnd W g6 r vc vw vf w) (hl : Lens r.1 1000001) : ParSix W g6 r vc vw vf w := by
  obtain ⟨_, _, _, _, c1, _, _, _, _, hlt⟩ := h.rd
  exact ⟨h.bel, c1, hlt, h.box, h.lt, h.rows, hl⟩
theorem ParSix.call {W w w' : World} {g6 : Nat} {r : Mq × Rd} {vc vw vf : Value} (h : ParSix W g6 r vc vw vf w) (hb : Below w.heap.size w w') : ParSix W g6 r vc vw vf w' :=
  ⟨h.bel.trans (hb.mono (Nat.le_of_lt h.lt)), (cellB hb h.lt6).trans h.bad, Nat.lt_of_lt_of_le h.lt6 hb.size, h.box.below hb h.lt, Nat.lt_of_lt_of_le h.lt hb.size, ⟨own_below h.rows.1 hb, own_below h.rows.2.1 hb, own_below h.rows.2.2 hb⟩, h.len⟩
theorem ParSix.drew {W w : World} {g6 : Nat} {r : Mq × Rd} {vc vw vf : Value} (h : ParSix W g6 r vc vw vf w) : ParSix W g6 r vc vw vf w.drew := h.call (Below.drew (Below.refl _ _))
theorem ParSix.keep {W w w' : World} {g6 : Nat} {r : Mq × Rd} {vc vw vf : Value} (h : ParSix W g6 r vc vw vf w) (hg : w.grownBy w' (some W.heap.size)) (_hs : w'.heap.size = w.heap.size) : Rows3 w' W.heap.size r.1 vc vw vf ∧ Lens r.1 1000001 := by
  have k : ∀ {e : TypeId} {size n : Nat} {v : Value} {xs : List Value}, w.ownsRow (W.heap.size + 1) e size v n xs → w'.ownsRow (W.heap.size + 1) e size v n xs := fun h =>
    h.kept hg (Or.inr (Ne.symm (own_ne h (Or.inl (by omega)))))
  exact ⟨⟨own_base (k h.rows.1) (Nat.le_succ _), own_base (k h.rows.2.1) (Nat.le_succ _), own_base (k h.rows.2.2) (Nat.le_succ _)⟩, h.len⟩
theorem ParSix.belK {W w w' : World} {g6 : Nat} {r : Mq × Rd} {vc vw vf : Value} (h : ParSix W g6 r vc vw vf w) (hg : w.grownBy w' (some W.heap.size)) (_hs : w'.heap.size = w.heap.size) : Below W.heap.size W w' :=
  h.bel.grown hg (Nat.le_of_lt h.lt) (fun k hk => by injection hk with hk; rw [← hk]; exact Nat.le_refl _)
section
variable {ops : Array Oper} {Q : Exit → Act → World → Prop} {n : Nat} {l fixed : List (Nat × Value)} {F : World → Prop} {es : List EntC} {i s : Nat} {o : Oper}
theorem jh {Wp : World → Prop} {T : Nat} {x hi : Operand} {u y r : Value} (hq : ∀ w, (Instr.sliceAt T u none (some y) none).run Tryd.prog w = .ok r w) (ho : ops[i]? = some o := by rfl) (hp : o.op = .slice T x none (some hi) none := by rfl) (hd : o.dst = some s := by rfl) (hg : okG ops l o = true := by rfl) (hx : evL l x = some u := by rfl) (hy : evL l hi = some y := by rfl) : PureE ops Q n l Wp i s r :=
  fun _ _ w H _ hK => wpOp_go ho (okG_w H hg) s hd r w (run_slice_h hp (H.ev hx) (H.ev hy) (hq w)) hK
theorem js2 {Wp : World → Prop} {T : Nat} {x lo hi : Operand} {u y z r : Value} (hq : ∀ w, (Instr.sliceAt T u (some y) (some z) none).run Tryd.prog w = .ok r w) (ho : ops[i]? = some o := by rfl) (hp : o.op = .slice T x (some lo) (some hi) none := by rfl) (hd : o.dst = some s := by rfl) (hg : okG ops l o = true := by rfl) (hx : evL l x = some u := by rfl) (hy : evL l lo = some y := by rfl) (hz : evL l hi = some z := by rfl) : PureE ops Q n l Wp i s r :=
  fun _ _ w H _ hK => wpOp_go ho (okG_w H hg) s hd r w (run_slice hp (H.ev hx) (H.ev hy) (H.ev hz) (hq w)) hK
theorem kC {f : FuncId} {xs : Array Operand} {ats : Array TypeId} {t : EntC} (ho : ops[t.op]? = some o) (hp : o.op = .call { callee := .value (.func f), args := xs, argTypes := ats }) (hd : o.dst = some t.slot) (hg : okG ops (fixed ++ knownE (afts ops t.op) es) o = true)
    (hc : ∀ a w, Has a n (fixed ++ knownE (afts ops t.op) es) → KnownR (afts ops t.op) a w es → F w → ∃ vs : List Value, xs.toList.map a.eval = vs ∧ Calls Tryd.prog f vs.toArray w fun e w' => ∃ v, e = .returned v ∧ (t.e.p v w' ∧ Below w.heap.size w w'))
    (hen : ∀ (args : Array Value) (w : World), (callFunc f args).run Tryd.prog w = .ok (.enter f args) w := by exact fun _ _ => by kernel_rfl) : HeavyE ops Q n fixed F es t := kc hc ho hp hd hg hen
end
theorem mayB_of' {m : Mq} {b : Bool} (h : mayBb m = b) (hb : b = true := by rfl) : mayB m := (mayBb_iff m).1 (h.trans hb)
theorem belowQ {P : Program} {f : FuncId} {args : Array Value} {w : World} {b b' : Bool} (h : Calls P f args w fun e w' => e = .returned (.bool b) ∧ w = w') (hb : b = b') : Calls P f args w fun e w' => ∃ v, e = .returned v ∧ (v = .bool b' ∧ Below w.heap.size w w') :=
  h.mono fun _ _ ⟨h1, h2⟩ => ⟨_, h1, by rw [hb], h2 ▸ Below.refl _ _⟩
theorem packetC (B g : Nat) (s : Rd) (k : Nat) (f : UInt8) (hs : s.1.length ≤ 1000000) (r : Mq × Rd) (hr : readP (k : Int) f s = r) (w : World) (hR : RdAt w B g s) :
    Calls Tryd.prog 62 #[.pointer (some ⟨g, 0, none⟩), .int .i64 (k : Int), .int .i64 (f.toNat : Int)] w fun e w' => ∃ v, e = .returned v ∧ ((∃ vc vw vf, v = .agg (mqCells r.1 vc vw vf).toArray ∧ Rows3 w' w.heap.size r.1 vc vw vf) ∧ RdAt w' B g r.2 ∧ w.grownBy w' (some g)) := by
  subst hr
  refine (packPacket B g s k f hs w hR).mono ?_
  rintro e w' ⟨vc, vw, vf, rfl, h1, h2, h3⟩
  exact ⟨_, rfl, ⟨vc, vw, vf, rfl, h3⟩, h1, h2⟩
theorem Rows3.base {w : World} {b b' : Nat} {m : Mq} {vc vw vf : Value} (h : Rows3 w b m vc vw vf) (hb : b' ≤ b) : Rows3 w b' m vc vw vf := ⟨own_base h.1 hb, own_base h.2.1 hb, own_base h.2.2 hb⟩
set_option maxRecDepth 100000 in
set_option maxHeartbeats 3200000 in
theorem parse_err (xs : List UInt8) (A : Option Addr) (c : Nat) (w : World) (hr : RB w w.heap.size A xs) (hl : xs.length ≤ 140737488351232) (er : Int) (hs : sizeD xs = .error er) :
    Calls Tryd.prog 33 #[.slice A xs.length c] w (ParseSaid xs w) := by
  have her : (er != 0) = true := sizeD_err hs
  go_enter Tryd.func33, Tryd.ntmps33
  refine Has.start 56 [(0, .slice A xs.length c)] rfl rfl ⟨rfl, trivial⟩ ?_
  intro a0 H0
  have O0 := Own.start w
  refine rl ?_
  refine H0.al O0 2 zero_mq fun a3 w1 O1 H3 => nt ?_
  refine H3.rg 1 fun a4 H4 => ?_
  refine H4.cq 1 (sizeC xs A c (.error er) hs _ (hr.next O1.bel) hl) fun a6 H6 => ?_
  refine H6.ex (r := .int .i64 0) 0 fun a7 H7 => ?_
  refine H7.ex (r := .int .i64 0) 0 fun a8 H8 => ?_
  refine H8.ex (r := .int .i64 er) 3 fun a12 H12 => nt ?_
  refine H12.rg 1 fun a13 H13 => ?_
  refine H13.bn 0 (neq_35 _ _ true her _ _ _) fun a14 H14 => nt ?_
  refine H14.condT rfl ?_
  refine rl ?_
  refine H14.any (w' := w1) gz rfl rfl (.agg (mqCells (mq0 0) nilV nilV nilV).toArray) (by intro cs b h; cases h) (by kernel_rfl) (by kernel_rfl) ?_
  intro a15 H15
  refine H15.ms 1 fun a16 H16 => ?_
  refine H16.st O1 0 2 (hi := size_mq) fun a19 w2 O2 H19 => nt ?_
  refine wp_ret ?_
  repeat (first | (with_reducible refine block_ret ?_) | (with_reducible refine then_ret ?_))
  refine bodyPost_ret (results_m2 Tryd.results33 _ (H19.at_ 2 _ rfl) (H19.at_ 3 _ rfl) (H19.at_ 4 _ rfl) (O2.get 0 rfl) Tryd.underlying30 rfl size_mq rfl) H19.df ?_
  exact ⟨mq0 0, 0, er, nilV, nilV, nilV, parsed_err hs, rfl, none_rows _ _ 0, small0 0, O2.bel⟩
set_option maxRecDepth 100000 in
set_option maxHeartbeats 3200000 in
theorem parse_good (xs : List UInt8) (A : Option Addr) (c : Nat) (hc : xs.length ≤ c) (w : World) (hr : RB w w.heap.size A xs) (hl : xs.length ≤ 140737488351232) (hT : Wd w) (t i : Nat) (hs : sizeD xs = .ok (t, i)) (r : Mq × Rd) (hrd : r = readP (((xs.headD 0).toNat / 16 : Nat) : Int) (loB (xs.headD 0)) ((xs.take t).drop i, false)) :
    Calls Tryd.prog 33 #[.slice A xs.length c] w (ParseSaid xs w) := by
  have hg := sizeD_ge hs
  obtain ⟨gb, go, x, hA, hgb, hx, hcell⟩ := RB.get hr (k := 0) (by omega)
  subst hA
  rw [Nat.add_zero] at hcell
  have hx0 : xs.headD 0 = x := head_of hx
  rw [hx0] at hrd
  have hxb := x.toNat_lt
  have hyl : ((xs.take t).drop i).length = t - i := by simp; omega
  have hys : ((xs.take t).drop i, false).1.length ≤ 1000000 := by show ((xs.take t).drop i).length ≤ _; omega
  have hsm : Small r.1 := by rw [hrd]; exact small_readP _ _ _ hys
  have hln : Lens r.1 1000001 := by rw [hrd]; exact lens_readP _ _ _ hys
  have hP := parsed_readP hs r (by rw [hx0]; exact hrd)
  go_enter Tryd.func33, Tryd.ntmps33
  refine Has.start 56 [(0, .slice (some ⟨gb, go, none⟩) xs.length c)] rfl rfl ⟨rfl, trivial⟩ ?_
  intro a0 H0
  have O0 := Own.start w
  refine rl ?_
  refine H0.al O0 2 zero_mq fun a3 w1 O1 H3 => nt ?_
  refine H3.rg 1 fun a4 H4 => ?_
  refine H4.cq 1 (sizeC xs _ c (.ok (t, i)) hs _ (hr.next O1.bel) hl) fun a6 H6 => ?_
  refine H6.ex (r := .int .i64 (t : Int)) 0 fun a7 H7 => ?_
  refine H7.ex (r := .int .i64 (i : Int)) 0 fun a8 H8 => ?_
  refine H8.ex (r := .int .i64 0) 3 fun a12 H12 => nt ?_
  refine H12.rg 1 fun a13 H13 => ?_
  refine H13.bn 0 (neq_35 _ _ false rfl _ _ _) fun a14 H14 => nt ?_
  refine H14.condF rfl ?_
  refine skip_wp ?_
  refine then_normal ?_
  refine H14.rg 3 fun a17 H17 => ?_
  refine H17.go gz rfl rfl _ (run_slice rfl (H17.ev rfl) (H17.ev rfl) (H17.ev rfl) (slice_lh _ _ _ _ _ hg.2.1 hg.2.2.1 hc _)) ?_
  intro a18 H18
  refine H18.any (w' := w1) gz rfl rfl (.agg ([.slice (if c = i then (some ⟨gb, go, none⟩ : Option Addr) else (some ⟨gb, go, none⟩ : Option Addr).map (·.add i)) (t - i) (c - i), .bool false] : List Value).toArray) (by intro cs b h; cases h) (by kernel_rfl) (by kernel_rfl) ?_
  intro a19 H19
  refine H19.bx O1 1 fun a21 w2 O2 H21 => nt ?_
  obtain ⟨g6, hg6⟩ : ∃ g6, g6 = w1.heap.size := ⟨_, rfl⟩
  have hR : RdAt w2 w.heap.size g6 ((xs.take t).drop i, false) := RdAt.of hyl (by omega) (hg6 ▸ (O2.get 0 rfl).get 0 _ rfl) (hg6 ▸ (O2.get 0 rfl).get 1 _ rfl) (hg6 ▸ (O2.get 0 rfl).fr 0 rfl) (hg6 ▸ (O2.get 0 rfl).fr 1 rfl) ((((hr.below O2.bel).take t).cut (by simp; omega) (by simp; omega))) (hg6 ▸ O2.ge 0 rfl) (hg6 ▸ O2.lt 0 rfl)
  have H22 := H21.keep (l' := [(0, .slice (some ⟨gb, go, none⟩) xs.length c), (2, .pointer (some ⟨w.heap.size, 0, none⟩)), (3, .int .i64 (t : Int)), (6, .pointer (some ⟨w1.heap.size, 0, none⟩))]) ⟨rfl, rfl, rfl, rfl, trivial⟩
  have hM : ParMid w g6 ((xs.take t).drop i, false) w2 := ⟨O2.bel, hR, O2.get 1 rfl, O2.lt 1 rfl, (by rw [hg6]; exact Nat.ne_of_lt (O1.lt 0 rfl))⟩
  rw [← hg6] at H22
  refine H22.sg (ParMid w g6 ((xs.take t).drop i, false)) hM.drew [0, 2, 3, 6] [ec 0 23 (.pointer (some ⟨g6, 0, none⟩)), ec 1 24 (.slice (some ⟨gb, go, none⟩) xs.length c), ec 2 25 (.pointer (some ⟨gb, go, none⟩)), ec 3 26 (.int .u8 (x.toNat : Int)), ec 4 27 (.int .u8 ((x.toNat / 16 : Nat) : Int)), ec 5 28 (.int .i64 ((x.toNat / 16 : Nat) : Int)), ec 6 29 (.slice (some ⟨gb, go, none⟩) xs.length c), ec 7 30 (.pointer (some ⟨gb, go, none⟩)), ec 8 31 (.int .u8 (x.toNat : Int)), ec 9 32 (.int .u8 ((loB x).toNat : Int)), ec 10 33 (.int .i64 ((loB x).toNat : Int))] rfl ?_
  refine St.call 11 ⟨jm, jm, jI rfl rfl rfl rfl rfl rfl fun w => index_0 _ _ _ _ (by omega) w, jl fun _ h => load1_u _ _ _ _ ((cellB h.bel hgb).trans hcell), jb fun _ => shr4_u x _ _ _, jc fun _ => conv_58 _ (by omega) _, jm, jI rfl rfl rfl rfl rfl rfl fun w => index_0 _ _ _ _ (by omega) w, jl fun _ h => load1_u _ _ _ _ ((cellB h.bel hgb).trans hcell), jb fun _ => and15_u x _ _ _, jc fun _ => conv_58 _ (loB x).toNat_lt _, trivial⟩ (fun wy h => packetC w.heap.size g6 _ _ _ hys r hrd.symm wy h.rd) ?_
  rintro wy _ wz h ⟨⟨vc, vw, vf, rfl, hrows⟩, hrd', hgr⟩
  refine nx (fun w' => ParMid w g6 r.2 w' ∧ Rows3 w' (w.heap.size + 1) r.1 vc vw vf) [] [] ⟨h.call hrd' hgr, hrows.base h.lt⟩ ?_
  refine St.sto 12 trivial ?_
  intro a wu H _ h
  obtain ⟨w', hr', hg', hs', hC'⟩ := h.1.box.sto (L := mqCells r.1 vc vw vf) size_mq rfl rfl (mq_one _ (own_one h.2.1) (own_one h.2.2.1) (own_one h.2.2.2))
  refine ⟨w', run_store rfl (H.ev rfl) (H.ev rfl) hr', nx0 (ParSix w g6 r vc vw vf) [] [] ((h.1.fin h.2 hg' hs' hC').six hln) ?_⟩
  refine St.fin trivial ?_
  intro a23 w3 H23 _ hF
  obtain ⟨b1, e1⟩ : ∃ b, r.2.2 = b := ⟨_, rfl⟩
  obtain ⟨b2, e2⟩ : ∃ b, mayBb r.1 = b := ⟨_, rfl⟩
  obtain ⟨b3, e3⟩ : ∃ b, decide (layB r.1 = xs.take t) = b := ⟨_, rfl⟩
  replace H23 := H23.keep (l' := [(0, (.slice (some ⟨gb, go, none⟩) xs.length c)), (2, .pointer (some ⟨w.heap.size, 0, none⟩)), (3, .int .i64 (t : Int)), (6, .pointer (some ⟨g6, 0, none⟩))]) ⟨rfl, rfl, rfl, rfl, trivial⟩
  refine then_normal (H23.dq (ParSix w g6 r vc vw vf) (fun _ _ h hb => h.call hb) hF [0, 2, 3, 6] rfl [ec 0 35 (.pointer (some ⟨g6, 0, none⟩)), ec 1 36 (.pointer (some ⟨g6, 0, none⟩)), ec 2 37 (.pointer (some ⟨g6, 1, none⟩)), ec 3 38 (.bool b1), ec 4 39 (.bool b1), ec 5 40 (gv (!b1) ((.agg (mqCells r.1 vc vw vf).toArray))), eh 6 41 (gv (!b1) (.bool b2)), ec 7 42 (gv (!b1) (.bool (!b2))), ec 8 43 (.bool (b1 || (!b2))), ec 9 44 (.bool (b1 || (!b2))), ec 10 45 (gv (!(b1 || (!b2))) ((.agg (mqCells r.1 vc vw vf).toArray))), er 11 46 [] (fun v w' => b1 = false → b2 = true → BytesAre (layB r.1) v w'), ec 12 47 (gv (!(b1 || (!b2))) ((.slice (some ⟨gb, go, none⟩) xs.length c))), ec 13 48 (gv (!(b1 || (!b2))) (.int .i64 (t : Int))), ec 14 49 (gv (!(b1 || (!b2))) ((.slice (some ⟨gb, go, none⟩) t c))), eh 15 50 (gv (!(b1 || (!b2))) (.bool b3)), ec 16 51 (gv (!(b1 || (!b2))) (.bool (!b3))), ec 17 52 (.bool ((b1 || (!b2)) || (!b3)))] rfl ⟨jm, ja fun _ => by kernel_rfl, jf fieldX87_1, jl fun _ h => load1_b _ _ _ _ (e1 ▸ h.bad), jm, (by cases b1; exact jl fun _ h => loadS_run h.box; exact jo), (by cases b1; exact ju (hq := run_not b2); exact jo), (by (cases b1 <;> exact jp)), jm, (by cases b1; rotate_left; exact jo; cases b2; exact jo; exact jl fun _ h => loadS_run h.box), (by cases b1; rotate_left; exact jo; cases b2; exact jo; exact jm), (by cases b1; rotate_left; exact jo; cases b2; exact jo; exact jm), (by cases b1; rotate_left; exact jo; cases b2; exact jo; exact jh fun w => slice_h _ _ _ _ hg.2.2.1 hc w), (by cases b1; rotate_left; exact jo; cases b2; exact jo; exact ju (hq := run_not b3)), (by cases b1; rotate_left; exact jp; (cases b2 <;> exact jp)), trivial⟩ ⟨(by cases b1; exact kb fun w' h => e2 ▸ packMay r.1 _ _ _ w' h.lists hsm.fit (hT.below h.bel); exact ko), (by cases b1; rotate_left; exact kor fun _ h h2 => (by first | (cases h; done) | (cases h2; done)); cases b2; exact kor fun _ h h2 => (by first | (cases h; done) | (cases h2; done)); exact kr fun w' h => (packLay r.1 _ _ _ w' (mayB_of' e2) h.lists).mono fun _ _ ⟨v, h1, h2, h3⟩ => ⟨v, h1, fun _ _ => h2.read, h3⟩), (by cases b1; rotate_left; exact ko; cases b2; exact ko; exact kC rfl rfl rfl rfl fun a w' H hk h => ⟨[a.eval (.tmp 46), .slice (some ⟨gb, go, none⟩) t c], congrArg (fun v => [a.eval (.tmp 46), v]) (H.ev (x := .tmp 49) rfl), (belowQ (bytesEq (layB r.1) (xs.take t) (a.eval (.tmp 46)) _ w' (hk.1 rfl rfl) ⟨_, _, (by rw [List.length_take, Nat.min_eq_left hg.2.2.1]), ((hr.below h.bel).take t).more h.bel.size⟩) e3)⟩), trivial⟩ ?_ (hst := ⟨fun _ _ _ hb h h1 h2 => (h h1 h2).below hb, trivial⟩))
  intro a24 w4 H24 _ hF
  refine then_normal (H24.cond (t := (b1 || !b2) || !b3) rfl ?_)
  cases hb : (b1 || !b2) || !b3 with
  | true =>
    refine rl ?_
    refine H24.any (w' := w4) gz rfl rfl (.agg (mqCells (mq0 0) nilV nilV nilV).toArray) (by intro cs b h; cases h) (by kernel_rfl) (by kernel_rfl) fun a25 H25 => ?_
    refine H25.storeS rfl rfl rfl rfl (L := mqCells (mq0 0) nilV nilV nilV) rfl hF.box size_mq rfl rfl rfl fun a26 w5 H26 hg' hs' hC => ?_
    refine H26.ms 2 fun a27 H27 => nt (wp_ret ?_)
    repeat (first | (with_reducible refine block_ret ?_) | (with_reducible refine then_ret ?_))
    refine bodyPost_ret (results_m2 Tryd.results33 _ (H27.at_ 2 _ rfl) (H27.at_ 3 _ rfl) (H27.at_ 4 _ rfl) hC Tryd.underlying30 rfl size_mq rfl) H27.df ?_
    exact ⟨mq0 0, 0, 1, nilV, nilV, nilV, hP.2 (fun h => by rw [← e1, ← e2, ← e3, h.1, (mayBb_iff _).2 h.2.1, decide_eq_true h.2.2] at hb; cases hb), rfl, none_rows _ _ 0, small0 0, hF.belK hg' hs'⟩
  | false =>
    simp only [Bool.or_eq_false_iff, Bool.not_eq_false'] at hb
    refine skip_wp (then_normal ?_)
    refine rl ?_
    refine H24.loadS rfl rfl rfl rfl rfl hF.box Tryd.underlying30 rfl size_mq rfl fun a25 H25 => ?_
    refine H25.ms 1 fun a26 H26 => ?_
    refine H26.storeS rfl rfl rfl rfl rfl hF.box size_mq rfl rfl hF.one fun a27 w5 H27 hg' hs' hC => ?_
    refine H27.ms 2 fun a29 H29 => nt (wp_ret ?_)
    repeat (first | (with_reducible refine block_ret ?_) | (with_reducible refine then_ret ?_))
    refine bodyPost_ret (results_m2 Tryd.results33 _ (H29.at_ 2 _ rfl) (H29.at_ 3 _ rfl) (H29.at_ 4 _ rfl) hC Tryd.underlying30 rfl size_mq rfl) H29.df ?_
    exact ⟨r.1, t, 0, vc, vw, vf, hP.1 ⟨e1.trans hb.1.1, (mayBb_iff _).1 (e2.trans hb.1.2), of_decide_eq_true (e3.trans hb.2)⟩, rfl, hF.keep hg' hs', hsm, hF.belK hg' hs'⟩

theorem packParse (xs : List UInt8) (A : Option Addr) (c : Nat) (hc : xs.length ≤ c) (w : World) (hr : RB w w.heap.size A xs) (hl : xs.length ≤ 140737488351232) (hT : Wd w) :
    Calls Tryd.prog 33 #[.slice A xs.length c] w (ParseSaid xs w) := by
  cases hs : sizeD xs with
  | error er => exact parse_err xs A c w hr hl er hs
  | ok p =>
    obtain ⟨t, i⟩ := p
    obtain ⟨r, hrd⟩ : ∃ r, r = readP (((xs.headD 0).toNat / 16 : Nat) : Int) (loB (xs.headD 0)) ((xs.take t).drop i, false) := ⟨_, rfl⟩
    exact parse_good xs A c hc w hr hl hT t i hs r hrd
end Go.Proofs.YtkcdkjpmbjcmdaaDoor

/-
  Boxes of one's own, of a kind: where they lie.
-/
namespace Go.Proofs.YtkcdkjpmbjcmdaaDoor
open Go.RowKit

/-- a block's kind. -/
def TypB (w : World) (g T : Nat) : Prop := ∃ l fr, w.heap[g]? = some (.cells l T fr)
theorem TypB.set {w : World} {g T : Nat} (h : TypB w g T) (a : Addr) (v : Value) : TypB (w.setCell a v) g T := by
  obtain ⟨l, fr, h⟩ := h
  unfold World.setCell TypB
  simp only [Array.getElem?_modify, h]
  split
  · exact ⟨_, _, rfl⟩
  · exact ⟨_, _, rfl⟩
theorem TypB.sets {g T : Nat} (g' : Nat) : ∀ (vs : List Value) (o : Nat) {w : World}, TypB w g T → TypB (w.setCells g' o vs) g T
  | [], _, _, h => h
  | v :: vs, o, _, h => TypB.sets g' vs (o + 1) (h.set ⟨g', o, none⟩ v)
theorem TypB.grown {w w' : World} {g T : Nat} {r : Option Nat} (h : TypB w g T) (hg : w.grownBy w' r) (hne : some g ≠ r) : TypB w' g T := by
  obtain ⟨l, fr, h⟩ := h
  exact ⟨l, fr, (hg.block g (Array.getElem?_eq_some_iff.1 h).1 hne).trans h⟩
theorem TypB.below {w w' : World} {g T : Nat} (h : TypB w g T) (hb : Below w.heap.size w w') : TypB w' g T := h.grown (below_grown hb none) (by simp)
theorem TypB.far {w : World} {g T b e s n : Nat} {v : Value} {xs : List Value} (h : TypB w g T) (hO : w.ownsRow b e s v n xs) (he : Nat.beq e T = false) : some g ≠ v.ownBlock := by
  obtain ⟨l, fr, h⟩ := h
  rcases hO.2 with ⟨rfl, _⟩ | ⟨g1, c1, cur1, rfl, _, hg1, _⟩
  · intro h; cases h
  · intro h2
    have h2 : g = g1 := by injection h2
    subst h2
    rw [h] at hg1
    injection hg1 with hg1
    injection hg1 with _ hg1 _
    subst hg1
    rw [Nat.beq_refl] at he
    cases he
/-- a box of one's own, of a kind. -/
def BoxQ (base T : Nat) (L : List Value) (v : Value) (w : World) : Prop := ∃ g, v = .pointer (some ⟨g, 0, none⟩) ∧ base ≤ g ∧ g < w.heap.size ∧ Cells w g L ∧ TypB w g T
theorem BoxQ.below {base T : Nat} {L : List Value} {v : Value} {w w' : World} (hb : Below w.heap.size w w') (h : BoxQ base T L v w) : BoxQ base T L v w' := by
  obtain ⟨g, h1, h2, h3, h4, h5⟩ := h
  exact ⟨g, h1, h2, Nat.lt_of_lt_of_le h3 hb.size, h4.below hb h3, h5.below hb⟩
theorem BoxQ.row {base T b e s n : Nat} {L : List Value} {u v : Value} {xs : List Value} {w w' : World} (hO : w.ownsRow b e s u n xs) (he : Nat.beq e T = false) (hg : w.grownBy w' u.ownBlock) (h : BoxQ base T L v w) : BoxQ base T L v w' := by
  obtain ⟨g, h1, h2, h3, h4, h5⟩ := h
  exact ⟨g, h1, h2, Nat.lt_of_lt_of_le h3 hg.size, h4.kept hg h3 (h5.far hO he), h5.grown hg (h5.far hO he)⟩
section
variable {ops : Array Oper} {Q : Exit → Act → World → Prop} {n : Nat} {l fixed : List (Nat × Value)} {F : World → Prop} {es : List EntC} {i s : Nat} {o : Oper}
/-- a box is made, whenever. -/
theorem ka {T base : Nat} {L : List Value} (hz : ∀ w, (zeroValue T).run Tryd.prog w = .ok (.agg L.toArray) w) (hb : ∀ w, F w → base ≤ w.heap.size) (ho : ops[i]? = some o := by rfl) (hp : o.op = .alloc T := by rfl) (hd : o.dst = some s := by rfl) (hg : okG ops (fixed ++ knownE (afts ops i) es) o = true := by rfl) : HeavyE ops Q n fixed F es (er i s [] (BoxQ base T L)) :=
  kx (t := er i s [] (BoxQ base T L)) (fun a w _ _ hF => ⟨.pointer (some ⟨w.heap.size, 0, none⟩), w.alloc (.cells L.toArray T), by
    unfold execOp
    simp only [hp]
    simp [Instr.alloc, hz, Sem.run_bind, Result.andThen, newVar, newRow, Value.cells, newObj]
    rfl, ⟨w.heap.size, rfl, hb w hF, lt_alloc _ _, Cells.of_heap (heap_alloc_new w _), ⟨_, _, heap_alloc_new w _⟩⟩, balloc _ _⟩) ho hd hg
end
theorem Rows3.typ {w w' : World} {b g : Nat} {m : Mq} {vc vw vf : Value} (h : Rows3 w b m vc vw vf) (hT : TypB w g 30) (hg : w.grownBy w' (some g)) : Rows3 w' b m vc vw vf :=
  ⟨h.1.kept hg (.inr (Ne.symm (hT.far h.1 rfl))), h.2.1.kept hg (.inr (Ne.symm (hT.far h.2.1 rfl))), h.2.2.kept hg (.inr (Ne.symm (hT.far h.2.2 rfl)))⟩
section
variable {w w' : World}
theorem Rows3.belowR {b : Nat} {m : Mq} {vc vw vf : Value} (h : Rows3 w b m vc vw vf) (hb : Below w.heap.size w w') : Rows3 w' b m vc vw vf := ⟨own_below h.1 hb, own_below h.2.1 hb, own_below h.2.2 hb⟩
end
end Go.Proofs.YtkcdkjpmbjcmdaaDoor

/-
  The page's reading of a packet: words.
-/
namespace Go.Proofs.YtkcdkjpmbjcmdaaDoor
open Go.RowKit

theorem ofInt_u8r (a : Nat) (ha : a < 256) : (BitVec.ofInt 8 (a : Int)).toNat = a := by
  rw [BitVec.ofInt_natCast, BitVec.toNat_ofNat]; exact Nat.mod_eq_of_lt (by omega)
theorem u8_and_nat (a b : Nat) (ha : a < 256) (hb : b < 256) : bits .and .u8 (a : Int) (b : Int) = ((a &&& b : Nat) : Int) := by
  have hx : a &&& b < 2 ^ 8 := Nat.and_lt_two_pow _ (by omega)
  show IntKind.u8.wrap ((BitVec.ofInt 8 (a : Int) &&& BitVec.ofInt 8 (b : Int)).toNat : Int) = _
  rw [BitVec.toNat_and, ofInt_u8r a ha, ofInt_u8r b hb]
  have h0 : a &&& b < 256 := hx
  show ((a &&& b : Nat) : Int) % 256 = _
  omega
theorem bitU_iff (f : UInt8) (n : Nat) (hn : n < 256) : bitB f (UInt8.ofNat n) = (bits .and .u8 (f.toNat : Int) (n : Int) != 0) := by
  rw [bitB_iff f n hn, bits_and_u8 f n hn, u8_and_nat f.toNat n f.toNat_lt hn]
theorem shrU (f : UInt8) (d : Nat) (_hd : 0 < d) : bits BinOp.and IntKind.u8 ((f.toNat : Int) / (d : Int)) 3 = ((f.toNat / d &&& 3 : Nat) : Int) := by
  have h := f.toNat_lt
  have h2 : f.toNat / d ≤ f.toNat := Nat.div_le_self _ _
  have e : (f.toNat : Int) / (d : Int) = ((f.toNat / d : Nat) : Int) := by simp
  rw [e]
  exact u8_and_nat (f.toNat / d) 3 (by omega) (by omega)
theorem shrU8 (f : UInt8) : bits BinOp.and IntKind.u8 ((f.toNat : Int) / 8) 3 = ((f >>> 3 &&& 3).toNat : Int) := by
  have := shrU f 8 (by omega)
  rw [show ((8 : Nat) : Int) = 8 from rfl] at this
  rw [this]
  congr 1
  rw [UInt8.toNat_and, UInt8.toNat_shiftRight, Nat.shiftRight_eq_div_pow]
  rfl
theorem shrU2 (f : UInt8) : bits BinOp.and IntKind.u8 ((f.toNat : Int) / 2) 3 = ((f >>> 1 &&& 3).toNat : Int) := by
  have := shrU f 2 (by omega)
  rw [show ((2 : Nat) : Int) = 2 from rfl] at this
  rw [this]
  congr 1

theorem takeR_le (s : Rd) (n : Nat) : (takeR s n).2.1.length ≤ s.1.length := by
  unfold takeR; split <;> simp
theorem refNumQ (B g : Nat) (s : Rd) {n : Nat} {s' : Rd} (e : numR s = (n, s')) (w : World) (h : RdAt w B g s) :
    Calls Tryd.prog 85 #[.pointer (some ⟨g, 0, none⟩)] w (Rdd w B g (.int .i64 (n : Int)) s') := by
  have := refNumR B g s w h
  rw [e] at this
  exact this
theorem refTextQ (B g : Nat) (s : Rd) {t : ByteArray} {s' : Rd} (e : textR s = (t, s')) (w : World) (h : RdAt w B g s) :
    Calls Tryd.prog 86 #[.pointer (some ⟨g, 0, none⟩)] w (Rdd w B g (.string t) s') := by
  have := refTextR B g s w h
  rw [e] at this
  exact this
/-- one byte, by 'take(1)[0]'. -/
def Took1 (w : World) (B g : Nat) (x : UInt8) (s' : Rd) (e : Ending) (w' : World) : Prop :=
  ∃ b o c, e = .returned (.slice (some ⟨b, o, none⟩) 1 c) ∧ w'.cell? ⟨b, o, none⟩ = some (.int .u8 (x.toNat : Int)) ∧ RdAt w' B g s' ∧ w.grownBy w' (some g)
theorem refTake1Q (B g : Nat) (s : Rd) {x : UInt8} {s' : Rd} (e : oneR s = (x, s')) (w : World) (h : RdAt w B g s) :
    Calls Tryd.prog 84 #[.pointer (some ⟨g, 0, none⟩), .int .i64 1] w (Took1 w B g x s') := by
  refine (refTake B g s 1 1 rfl (by omega) w h).mono ?_
  rintro _ w1 ⟨A, c, rfl, hc, hl, hr, hR, hg⟩
  obtain ⟨b, o, y, rfl, _, hy, cy⟩ := hr.get (k := 0) (by omega)
  have h1 : y = x := by
    have := congrArg Prod.fst e
    exact (headD_of hy).symm.trans this
  have h2 : (takeR s 1).2 = s' := congrArg Prod.snd e
  subst h1
  exact ⟨b, o, c, rfl, by rw [Nat.add_zero] at cy; exact cy, h2 ▸ hR, hg⟩

end Go.Proofs.YtkcdkjpmbjcmdaaDoor

/-
  The page's reading of a packet.
-/
namespace Go.Proofs.YtkcdkjpmbjcmdaaDoor
open Go.RowKit

/-- 'take', and where what it hands back lies: among the bytes that came in, or in new memory. -/
def TookS (w : World) (B g n : Nat) (r : List UInt8 × Rd) (e : Ending) (w' : World) : Prop :=
  Took w B g n r e w' ∧ ∀ ad m c, e = .returned (.slice (some ad) m c) → ad.block < B ∨ w.heap.size ≤ ad.block
set_option maxRecDepth 100000 in
set_option maxHeartbeats 800000 in
theorem refTakeS (B g : Nat) (s : Rd) (n : Nat) (nI : Int) (hn : nI = (n : Int)) (h0 : 0 < n) (hn' : n ≤ 1000000) (w : World) (h : RdAt w B g s) :
    Calls Tryd.prog 84 #[.pointer (some ⟨g, 0, none⟩), .int .i64 nI] w (TookS w B g n (takeR s n)) := by
  subst hn
  obtain ⟨xs, bad⟩ := s
  obtain ⟨A, c, hc, c0, c1, f0, f1, hr, hB, hg⟩ := h
  dsimp only at hc c0 c1 hr
  by_cases hle : n ≤ xs.length
  · rw [takeR_ok _ _ hle]
    have hnI : (n : Int) ≤ (xs.length : Int) := by omega
    have hnc : (n : Int) ≤ (c : Int) := by omega
    have hnI' : n ≤ c := by omega
    have hn0 : (0 : Int) ≤ (n : Int) := by omega
    have HT := Lib.hid (tookR_ok hc hle c0 c1 f0 f1 hr hB hg)
    have HA : Hid (∀ ad m c', Ending.returned (.slice A n c) = Ending.returned (.slice (some ad) m c') → ad.block < B ∨ w.heap.size ≤ ad.block) := by
      intro ad m c' e
      injection e with e
      injection e with e _ _
      obtain ⟨ad', e', hb, _⟩ := hr.2 (by omega)
      rw [e'] at e
      injection e with e
      subst e
      exact Or.inl hb
    clear hr h0
    by_cases hcn : c = n
    · subst hcn
      rw [if_pos rfl, show xs.length - c = 0 by omega, Nat.sub_self] at HT
      go_enter Tryd.func84, Tryd.ntmps84
      go_wp2
      go_ret
      exact ⟨HT.out, HA.out⟩
    · rw [if_neg hcn] at HT
      go_enter Tryd.func84, Tryd.ntmps84
      go_wp2
      go_ret
      exact ⟨HT.out, HA.out⟩
  · rw [takeR_bad _ _ hle]
    have HT := Lib.hid (fun w' h1 h2 => tookR_bad (w' := w') (n := n) c0 c1 f0 f1 hB hg h1 h2)
    have hlt : (xs.length : Int) < (n : Int) := by omega
    clear hr hle h0
    go_enter Tryd.func84, Tryd.ntmps84
    go_wp2_with (apply wpList_make_bytes rfl _ _ 31 5 rfl Tryd.underlying31 info_u8 n ?_ ?_ hn' ?_; exact rfl; exact rfl; intro w2 hr2 hg2)
    go_ret
    simp only [size_setCell'] at hr2
    refine ⟨HT.out w2 hr2 hg2, ?_⟩
    intro ad m c' e
    injection e with e
    injection e with e _ _
    injection e with e
    subst e
    exact Or.inr (Nat.le_refl _)

/-- behind the switch of 'read': w1 the world with the result's block. -/
def RdMid (w w1 wx : World) (r : Mq × Rd) : Prop :=
  RdAt wx w.heap.size (w.heap.size + 1) r.2 ∧ w1.grownBy wx (some (w.heap.size + 1)) ∧ ∃ vc vw vf, Cells wx (w.heap.size + 1 + 1) (mqCells r.1 vc vw vf) ∧ Rows3 wx (w.heap.size + 1 + 1 + 1) r.1 vc vw vf
/-- what 'read' leaves. -/
def RdOut (w : World) (r : Mq × Rd) (e : Ending) (w' : World) : Prop :=
  ∃ vc vw vf, e = .returned (.tuple #[.agg (mqCells r.1 vc vw vf).toArray, .bool (!r.2.2)]) ∧ Below w.heap.size w w' ∧ Rows3 w' w.heap.size r.1 vc vw vf

theorem rd_start {w w1 w2 w3 w4 : World} {xs : List UInt8} {n c : Nat} {A : Option Addr} {l : List Value} (hl : xs.length = n) (hc : n ≤ c) (hx : RB w w.heap.size A xs) (hb1 : Below w.heap.size w w1) (hs1 : w1.heap.size = w.heap.size + 1)
    (hb2 : Below (w.heap.size + 1) w1 w2) (hs2 : w2.heap.size = w.heap.size + 1 + 1) (hC2 : Cells w2 (w.heap.size + 1) [.slice A n c, .bool false]) (hb3 : Below (w.heap.size + 1 + 1) w2 w3) (hs3 : w3.heap.size = w.heap.size + 1 + 1 + 1)
    (hg4 : w3.grownBy w4 (some (w.heap.size + 1 + 1))) (hs4 : w4.heap.size = w3.heap.size) (hC4 : Cells w4 (w.heap.size + 1 + 1) l) :
    RdAt w4 w.heap.size (w.heap.size + 1) (xs, false) ∧ w1.grownBy w4 (some (w.heap.size + 1)) ∧ w1.heap.size ≤ w.heap.size + 1 + 1 ∧ w.heap.size ≤ w.heap.size + 1 + 1 ∧ w.heap.size + 1 + 1 ≠ w.heap.size + 1 ∧ w.heap.size + 1 + 1 < w4.heap.size ∧ Cells w4 (w.heap.size + 1 + 1) l ∧ w4.heap.size = w.heap.size + 1 + 1 + 1 := by
  have hR2 : RdAt w2 w.heap.size (w.heap.size + 1) (xs, false) :=
    RdAt.of hl hc (hC2.get 0 _ rfl) (hC2.get 1 _ rfl) (hC2.fr 0 rfl) (hC2.fr 1 rfl) ((hx.below hb1).below (hb2.mono (by omega))) (by omega) (by omega)
  have hb3' : Below w2.heap.size w2 w3 := by rw [hs2]; exact hb3
  have hb2' : Below w1.heap.size w1 w2 := by rw [hs1]; exact hb2
  refine ⟨(hR2.below hb3').kept hg4 (fun k hk => by injection hk with hk; omega) (by intro e; injection e with e; omega), ?_, by omega, by omega, by omega, by omega, hC4, by omega⟩
  exact grown_mix ((below_grown hb2' _).trans (below_grown hb3' _)) hg4 (fun k hk => by injection hk with hk; omega)
theorem rd_mid {w w1 wx : World} {r : Mq × Rd} {s' : Rd} {l : List Value} {vc vw vf : Value} (hR : RdAt wx w.heap.size (w.heap.size + 1) s') (hC : Cells wx (w.heap.size + 1 + 1) l) (hG : w1.grownBy wx (some (w.heap.size + 1)))
    (he : s' = r.2) (hl : l = mqCells r.1 vc vw vf) (hrows : Rows3 wx (w.heap.size + 1 + 1 + 1) r.1 vc vw vf) : RdMid w w1 wx r := by
  subst he hl
  exact ⟨hR, hG, vc, vw, vf, hC, hrows⟩
theorem rd_end {w w1 wx : World} {r : Mq × Rd} {vc vw vf : Value} {L : List Value} (hL : mqCells r.1 vc vw vf = L) (hb1 : Below w.heap.size w w1) (hs1 : w1.heap.size = w.heap.size + 1) (hG : w1.grownBy wx (some (w.heap.size + 1))) (ht : wx.there w.heap.size 0 L.length)
    (hrows : Rows3 wx (w.heap.size + 1 + 1 + 1) r.1 vc vw vf) :
    RdOut w r (.returned (.tuple #[.agg L.toArray, .bool (!r.2.2)])) (wx.drew.setCells w.heap.size 0 L) ∧ Cells (wx.drew.setCells w.heap.size 0 L) w.heap.size L := by
  subst hL
  obtain ⟨hO, h4⟩ := setCells_only w.heap.size (mqCells r.1 vc vw vf) 0 wx.drew
  replace h4 := of_drew_grown h4
  have ht' : wx.drew.there w.heap.size 0 (mqCells r.1 vc vw vf).length := by simpa using ht
  have k : ∀ {e : TypeId} {size n : Nat} {v : Value} {xs : List Value}, wx.ownsRow (w.heap.size + 1 + 1 + 1) e size v n xs → (wx.drew.setCells w.heap.size 0 (mqCells r.1 vc vw vf)).ownsRow w.heap.size e size v n xs := fun h =>
    own_base (h.kept h4 (Or.inr (Ne.symm (own_ne h (Or.inl (by omega)))))) (by omega)
  refine ⟨⟨vc, vw, vf, rfl, ?_, k hrows.1, k hrows.2.1, k hrows.2.2⟩, ?_⟩
  · have h1 : Below w.heap.size w wx := hb1.trans (grown_below hG (by omega) (by omega))
    exact h1.grown h4 (Nat.le_trans (by omega) hG.size) (fun q hq => by injection hq with hq; omega)
  · intro j v hv
    have hj := (List.getElem?_eq_some_iff.1 hv).1
    have a := World.rangeAt_setCells_same wx.drew w.heap.size 0 _ ht' j v hv
    have b := (World.there_setCells ht' w.heap.size 0 (mqCells r.1 vc vw vf) j hj).2
    rw [Nat.zero_add] at a b
    exact ⟨a, b⟩

theorem rd_fin {w w1 wx w' : World} {r : Mq × Rd} {vc vw vf : Value} (hb1 : Below w.heap.size w w1) (hs1 : w1.heap.size = w.heap.size + 1) (hG : w1.grownBy wx (some (w.heap.size + 1))) (hrows : Rows3 wx (w.heap.size + 1 + 1 + 1) r.1 vc vw vf) (h4 : wx.grownBy w' (some w.heap.size)) :
    RdOut w r (.returned (.tuple #[.agg (mqCells r.1 vc vw vf).toArray, .bool (!r.2.2)])) w' := by
  have k : ∀ {e : TypeId} {size n : Nat} {v : Value} {xs : List Value}, wx.ownsRow (w.heap.size + 1 + 1 + 1) e size v n xs → w'.ownsRow w.heap.size e size v n xs := fun h =>
    own_base (h.kept h4 (Or.inr (Ne.symm (own_ne h (Or.inl (by omega)))))) (by omega)
  refine ⟨vc, vw, vf, rfl, ?_, k hrows.1, k hrows.2.1, k hrows.2.2⟩
  have h1 : Below w.heap.size w wx := hb1.trans (grown_below hG (by omega) (by omega))
  exact h1.grown h4 (Nat.le_trans (by omega) hG.size) (fun q hq => by injection hq with hq; omega)
/-- a struct and a bool are the results. -/
theorem results_cells_bool {P : Program} {fn : Func} {p q : Tmp} {T : TypeId} (h : fn.results = #[.cell p T, .tmp q]) (tmps : Array Value) {w : World} {g : Nat} {l : List Value} (d : TypeDesc) (hp : tmps.getD p undef = .pointer (some ⟨g, 0, none⟩)) (hC : Cells w g l)
    (hu : P.underlying T = some d) (hd : d.isRow = true) (n : Nat) (hi : (P.info? T).map (·.size) = some n) (hl : l.length = n) (b : Value) (hq : tmps.getD q undef = b) : (results fn tmps).run P w = .ok (.tuple #[.agg l.toArray, b]) w := by
  rw [← hl] at hi
  have hp' : tmps[p]?.getD undef = .pointer (some ⟨g, 0, none⟩) := by simpa using hp
  have hq' : tmps[q]?.getD undef = b := by simpa using hq
  simp [results, h, hp', hq', asAddr, run_loadVar_mid w g 0 T l d hC.range hu hd hi]

theorem and_u (u v : Int) (x y : Operand) (w : World) : (do eqGuard .and 5 x y (.int .u8 u) (.int .u8 v); binOp .and 5 (.int .u8 u) (.int .u8 v) : Sem Value).run Tryd.prog w = .ok (.int .u8 (bits .and .u8 u v)) w := by kernel_rfl
theorem neq_u (u v : Int) (b : Bool) (h : (u != v) = b) (x y : Operand) (w : World) : (do eqGuard .neq 5 x y (.int .u8 u) (.int .u8 v); binOp .neq 5 (.int .u8 u) (.int .u8 v) : Sem Value).run Tryd.prog w = .ok (.bool b) w := by
  rw [← h]
  kernel_rfl
theorem bit_u (f : UInt8) (n : Nat) (hn : n < 256) (x y : Operand) (w : World) : (do eqGuard .neq 5 x y (.int .u8 (bits .and .u8 (f.toNat : Int) (n : Int))) (.int .u8 0); binOp .neq 5 (.int .u8 (bits .and .u8 (f.toNat : Int) (n : Int))) (.int .u8 0) : Sem Value).run Tryd.prog w = .ok (.bool (bitB f (UInt8.ofNat n))) w :=
  neq_u _ _ _ (bitU_iff f n hn).symm _ _ _
theorem shr_u (u : Int) (n : Nat) (x y : Operand) (w : World) (hn : n = 1 ∨ n = 3 ∨ n = 4) : (do eqGuard .shr 5 x y (.int .u8 u) (.int .u64 (n : Int)); binOp .shr 5 (.int .u8 u) (.int .u64 (n : Int)) : Sem Value).run Tryd.prog w = .ok (.int .u8 (u / (2 ^ n : Nat))) w := by
  rcases hn with rfl | rfl | rfl <;> simp [go_sem]
theorem conv_53 (k : Int) (h0 : 0 ≤ k) (h1 : k < 256) (w : World) : (convert 5 3 (.int .u8 k)).run Tryd.prog w = .ok (.int .i64 k) w := by
  have : IntKind.i64.wrap k = k := IntWalk.i64_in _ (by omega)
  simp [go_sem, this]
theorem eql_5 (u v : Int) (x y : Operand) (w : World) : (do eqGuard .eql 5 x y (.int .u8 u) (.int .u8 v); binOp .eql 5 (.int .u8 u) (.int .u8 v) : Sem Value).run Tryd.prog w = .ok (.bool (u == v)) w := by kernel_rfl
/-- while lists are read: the reader, the packet, its rows behind it. -/
structure RJ (w w1 : World) (s : Rd) (m : Mq) (vc vw vf : Value) (wx : World) : Prop where
  r : Rst w1 w.heap.size (w.heap.size + 1) (w.heap.size + 1 + 1) s (mqCells m vc vw vf) wx
  rows : Rows3 wx (w.heap.size + 1 + 1 + 1) m vc vw vf
section
variable {w w1 wx w' : World} {s s' : Rd} {m : Mq} {vc vw vf : Value}
theorem RJ.le (h : RJ w w1 s m vc vw vf wx) : w.heap.size + 1 + 1 + 1 ≤ wx.heap.size := h.r.lt
theorem RJ.call (h : RJ w w1 s m vc vw vf wx) (hr : RdAt w' w.heap.size (w.heap.size + 1) s') (hg : wx.grownBy w' (some (w.heap.size + 1))) : RJ w w1 s' m vc vw vf w' :=
  have k : ∀ {e : TypeId} {size n : Nat} {v : Value} {xs : List Value}, wx.ownsRow (w.heap.size + 1 + 1 + 1) e size v n xs → w'.ownsRow (w.heap.size + 1 + 1 + 1) e size v n xs := fun h => h.kept hg (Or.inr (Ne.symm (own_ne h (Or.inl (by omega)))))
  ⟨h.r.call hr hg, k h.rows.1, k h.rows.2.1, k h.rows.2.2⟩
theorem RJ.below (h : RJ w w1 s m vc vw vf wx) (hb : Below wx.heap.size wx w') : RJ w w1 s m vc vw vf w' := h.call (h.r.rd.below hb) (below_grown hb _)
theorem RJ.cells (h : RJ w w1 s m vc vw vf wx) {e : TypeId} {size n : Nat} {v : Value} {xs : List Value} (hO : wx.ownsRow (w.heap.size + 1 + 1 + 1) e size v n xs) (hg : wx.grownBy w' v.ownBlock) : Rst w1 w.heap.size (w.heap.size + 1) (w.heap.size + 1 + 1) s (mqCells m vc vw vf) w' := by
  have hge := h.r.ge
  exact ⟨h.r.rd.kept hg (fun k hk => Nat.le_trans (by omega) (hO.lt k hk).1) (own_ne hO (.inl (by omega))), h.r.ce.kept hg h.r.lt (own_ne hO (.inl (by omega))), grown_mix h.r.gr hg fun k hk => Nat.le_trans h.r.ge (Nat.le_trans (by omega) (hO.lt k hk).1), h.r.ge, h.r.hB, h.r.ne, Nat.lt_of_lt_of_le h.r.lt hg.size⟩
theorem RJ.code (h : RJ w w1 s m vc vw vf wx) (hg : wx.grownBy w' vc.ownBlock) {x : Int} {v : Value} (hO : w'.ownsRow (w.heap.size + 1 + 1 + 1) 3 1 v (m.codes.length + 1) (m.codes.map iv ++ [iv x])) : RJ w w1 s { m with codes := m.codes ++ [x] } v vw vf (w'.setCell ⟨w.heap.size + 1 + 1, 15, none⟩ v) := by
  have hr := h.cells h.rows.1 hg
  refine ⟨hr.set 15 v (by show 15 < 24; decide), ?_, ?_, ?_⟩
  · show (w'.setCell _ v).ownsRow _ _ _ v (m.codes ++ [x]).length ((m.codes ++ [x]).map iv)
    rw [map_iv_snoc, List.length_append]
    exact ownsRow_setCell_below hO (a := ⟨_, 15, none⟩) (Nat.lt_succ_self _) v
  · exact ownsRow_setCell_below (h.rows.2.1.kept hg (own_apart h.rows.2.1 h.rows.1 rfl)) (a := ⟨_, 15, none⟩) (Nat.lt_succ_self _) v
  · exact ownsRow_setCell_below (h.rows.2.2.kept hg (own_apart h.rows.2.2 h.rows.1 rfl)) (a := ⟨_, 15, none⟩) (Nat.lt_succ_self _) v
theorem RJ.wish (h : RJ w w1 s m vc vw vf wx) (hg : wx.grownBy w' vw.ownBlock) {x : ByteArray × Int} {v : Value} (hO : w'.ownsRow (w.heap.size + 1 + 1 + 1) 95 2 v (m.wishes.length + 1) (wv m.wishes ++ wv [x])) : RJ w w1 s { m with wishes := m.wishes ++ [x] } vc v vf (w'.setCell ⟨w.heap.size + 1 + 1, 22, none⟩ v) := by
  have hr := h.cells h.rows.2.1 hg
  refine ⟨hr.set 22 v (by show 22 < 24; decide), ?_, ?_, ?_⟩
  · exact ownsRow_setCell_below (h.rows.1.kept hg (own_apart h.rows.1 h.rows.2.1 rfl)) (a := ⟨_, 22, none⟩) (Nat.lt_succ_self _) v
  · show (w'.setCell _ v).ownsRow _ _ _ v (m.wishes ++ [x]).length (wv (m.wishes ++ [x]))
    rw [wv_append, List.length_append]
    exact ownsRow_setCell_below hO (a := ⟨_, 22, none⟩) (Nat.lt_succ_self _) v
  · exact ownsRow_setCell_below (h.rows.2.2.kept hg (own_apart h.rows.2.2 h.rows.2.1 rfl)) (a := ⟨_, 22, none⟩) (Nat.lt_succ_self _) v
theorem RJ.filt (h : RJ w w1 s m vc vw vf wx) (hg : wx.grownBy w' vf.ownBlock) {x : ByteArray} {v : Value} (hO : w'.ownsRow (w.heap.size + 1 + 1 + 1) 9 1 v (m.filters.length + 1) (m.filters.map sv ++ [sv x])) : RJ w w1 s { m with filters := m.filters ++ [x] } vc vw v (w'.setCell ⟨w.heap.size + 1 + 1, 23, none⟩ v) := by
  have hr := h.cells h.rows.2.2 hg
  refine ⟨hr.set 23 v (by show 23 < 24; decide), ?_, ?_, ?_⟩
  · exact ownsRow_setCell_below (h.rows.1.kept hg (own_apart h.rows.1 h.rows.2.2 rfl)) (a := ⟨_, 23, none⟩) (Nat.lt_succ_self _) v
  · exact ownsRow_setCell_below (h.rows.2.1.kept hg (own_apart h.rows.2.1 h.rows.2.2 rfl)) (a := ⟨_, 23, none⟩) (Nat.lt_succ_self _) v
  · show (w'.setCell _ v).ownsRow _ _ _ v (m.filters ++ [x]).length ((m.filters ++ [x]).map sv)
    rw [map_sv_snoc, List.length_append]
    exact ownsRow_setCell_below hO (a := ⟨_, 23, none⟩) (Nat.lt_succ_self _) v
end
theorem take1C {B g : Nat} {s : Rd} {x : UInt8} {s' : Rd} (e : oneR s = (x, s')) (w : World) (h : RdAt w B g s) : Calls Tryd.prog 84 #[.pointer (some ⟨g, 0, none⟩), .int .i64 1] w fun e w' => ∃ v, e = .returned v ∧ ∃ b o c, v = .slice (some ⟨b, o, none⟩) 1 c ∧ w'.cell? ⟨b, o + 0, none⟩ = some (.int .u8 (x.toNat : Int)) ∧ RdAt w' B g s' ∧ w.grownBy w' (some g) :=
  (refTake1Q B g s e w h).mono fun _ _ ⟨b, o, c, h1, h2, h3, h4⟩ => ⟨_, h1, b, o, c, rfl, h2, h3, h4⟩
theorem textC {B g : Nat} {s : Rd} {t : ByteArray} {s' : Rd} (e : textR s = (t, s')) (w : World) (h : RdAt w B g s) : Calls Tryd.prog 86 #[.pointer (some ⟨g, 0, none⟩)] w fun e w' => ∃ v, e = .returned v ∧ v = .string t ∧ RdAt w' B g s' ∧ w.grownBy w' (some g) :=
  (refTextQ B g s e w h).mono fun _ _ ⟨h1, h2, h3⟩ => ⟨_, h1, rfl, h2, h3⟩
theorem low_len {n : Nat} (h : n ≤ 8) : n + 1 ≤ maxLen ∧ (n + 1) * 24 ≤ 140737488355328 := by unfold maxLen; omega
set_option maxRecDepth 100000 in
set_option maxHeartbeats 3200000 in
theorem refRead (f : UInt8) (xs : List UInt8) (n c : Nat) (A : Option Addr) (hl : xs.length = n) (hc : n ≤ c) (w : World) (hx : RB w w.heap.size A xs) :
    Calls Tryd.prog 64 #[.int .u8 (f.toNat : Int), .slice A n c] w (RdOut w (readR ((f.toNat : Int) / 16) f (xs, false))) := by
  have hf := f.toNat_lt
  obtain ⟨k, hk⟩ : ∃ k, (f.toNat : Int) / 16 = k := ⟨_, rfl⟩
  rw [hk]
  go_enter Tryd.func64, Tryd.ntmps64
  refine Has.start 185 [(0, .int .u8 (f.toNat : Int)), (1, .slice A n c)] rfl rfl ⟨rfl, rfl, trivial⟩ ?_
  intro a0 H0
  refine rl ?_
  refine H0.alloc rfl rfl rfl rfl _ zero_mq ?_
  intro a1 w1 hb1 hs1 hC1 H1
  refine H1.ms 1 fun a2 H2 => nt ?_
  refine H2.rg 1 fun a3 H3 => ?_
  refine H3.any (w' := w1) gz rfl rfl (.agg #[.slice A n c, .bool false]) (by intro cs b h; cases h) (by kernel_rfl) (by kernel_rfl) fun a4 H4 => ?_
  refine H4.box rfl rfl rfl rfl (L := [.slice A n c, .bool false]) rfl ?_
  intro a5 w2 hb2 hs2 hC2 H5
  refine H5.ms 1 fun a6 H6 => nt ?_
  refine H6.rg 1 fun a7 H7 => ?_
  refine H7.bn 0 (shr_u _ 4 _ _ _ (.inr (.inr rfl))) fun a8 H8 => ?_
  have e16 : (f.toNat : Int) / ((2 ^ 4 : Nat) : Int) = k := hk
  rw [e16] at H8
  refine H8.cv 0 (conv_53 k (by omega) (by omega) _) fun a9 H9 => ?_
  refine H9.any (w' := w2) gz rfl rfl (.agg (mqCells (mq0 k) nilV nilV nilV).toArray) (by intro cs b h; cases h) (by kernel_rfl) (by kernel_rfl) fun b1 H10 => ?_
  refine H10.alloc rfl rfl rfl rfl _ zero_mq ?_
  intro b2 w3 hb3 hs3 hC3 H11
  refine H11.storeS rfl rfl rfl rfl rfl hC3 size_mq rfl rfl rfl ?_
  intro b3 w4 H12 hg4 hs4 hC4
  refine nt ?_
  rw [hs1] at hb2 hs2 hC2 H12
  rw [hs2] at hb3 hs3 hg4 hC4 H12
  obtain ⟨p1, p2, p3, p4, p5, p6, p7, p8⟩ := rd_start hl hc hx hb1 hs1 hb2 hs2 hC2 hb3 hs3 hg4 hs4 hC4
  have R4 : Rst w1 w.heap.size (w.heap.size + 1) (w.heap.size + 1 + 1) (xs, false) (mqCells (mq0 k) nilV nilV nilV) w4 := ⟨p1, p7, p2, p3, p4, p5, p6⟩
  have hM := fun (r : Mq × Rd) wx (s' : Rd) l vc vw vf => fun (R : Rst w1 w.heap.size (w.heap.size + 1) (w.heap.size + 1 + 1) s' l wx) => rd_mid (w := w) (w1 := w1) (wx := wx) (r := r) (vc := vc) (vw := vw) (vf := vf) R.rd R.ce R.gr
  have H13 := H12.keep (l' := [(0, .int .u8 (f.toNat : Int)), (4, .pointer (some ⟨w.heap.size, 0, none⟩)), (5, .bool false), (6, .pointer (some ⟨w.heap.size + 1, 0, none⟩)), (7, .pointer (some ⟨w.heap.size + 1 + 1, 0, none⟩))]) ⟨rfl, rfl, rfl, rfl, rfl, trivial⟩
  clear hb2 hs2 hC2 hb3 hs3 hC3 hg4 hC4 H12 H11 H10 H9 H8 H7 H6 H5 H4 H3 H2 H1 H0 p1 p2 p3 p4 p5 p6 p7
  refine wp_seq_join (fun a w' => Has a 185 [(4, .pointer (some ⟨w.heap.size, 0, none⟩)), (6, .pointer (some ⟨w.heap.size + 1, 0, none⟩)), (7, .pointer (some ⟨w.heap.size + 1 + 1, 0, none⟩))] ∧ RdMid w w1 w' (readR k f (xs, false))) ?_ ?_
  · refine H13.rg 1 fun a1 H1 => ?_
    refine H1.ld 0 (R4.li 0) fun a2 H2 => nt ?_
    refine wp_block ?_
    refine H2.rg 0 fun a1 H1 => ?_
    refine H1.bn 1 (eql_i _ _ _ _ _) fun a2 H2 => nt ?_
    refine H2.cond (t := k == 1) rfl ?_
    cases b1 : (k == 1) with
    | true =>
      have k1 : k = 1 := by simpa using b1
      subst k1
      obtain ⟨r, hr⟩ : ∃ r, connR (xs, false) = r := ⟨_, rfl⟩
      obtain ⟨s1, e1⟩ : ∃ x, (takeR (xs, false) 7).2 = x := ⟨_, rfl⟩
      obtain ⟨x, s2, e2⟩ : ∃ x s2, oneR s1 = (x, s2) := ⟨_, _, rfl⟩
      obtain ⟨kk, e3⟩ : ∃ x, numR s2 = x := ⟨_, rfl⟩
      obtain ⟨c1, e4⟩ : ∃ x, textR kk.2 = x := ⟨_, rfl⟩
      obtain ⟨t, ht⟩ : ∃ x, textR c1.2 = x := ⟨_, rfl⟩
      obtain ⟨y, hy⟩ : ∃ x, textR t.2 = x := ⟨_, rfl⟩
      obtain ⟨s5, e5⟩ : ∃ z, (if bitB x 4 then y.2 else c1.2) = z := ⟨_, rfl⟩
      obtain ⟨u, hu⟩ : ∃ x, textR s5 = x := ⟨_, rfl⟩
      obtain ⟨s6, e6⟩ : ∃ z, (if bitB x 128 then u.2 else s5) = z := ⟨_, rfl⟩
      obtain ⟨q, hq⟩ : ∃ x, textR s6 = x := ⟨_, rfl⟩
      obtain ⟨s7, e7⟩ : ∃ z, (if bitB x 64 then q.2 else s6) = z := ⟨_, rfl⟩
      have hr' : readR 1 f (xs, false) = ((Conn.mk x kk c1 t y u q s7).mq, s7) := by
        have : connR (xs, false) = ⟨x, kk, c1, t, y, u, q, s7⟩ := by
          subst e7 hq e6 hu e5 hy ht e4 e3
          unfold connR connOf
          rw [e1, e2]
        unfold readR
        rw [if_pos rfl, this]
      rw [hr']
      refine H2.rg 1 fun a3 H3 => ?_
      refine H3.cl (R := fun _ w' => RdAt w' w.heap.size (w.heap.size + 1) s1 ∧ w4.grownBy w' (some (w.heap.size + 1))) ((refTake w.heap.size (w.heap.size + 1) (xs, false) 7 7 rfl (by omega) w4 R4.rd).mono ?_) ?_
      · rintro _ _ ⟨_, _, rfl, _, _, _, h1, h2⟩
        exact ⟨_, rfl, e1 ▸ h1, h2⟩
      rintro a4 v4 w5 ⟨h1, h2⟩ H4
      have R5 := R4.call h1 h2
      refine nt ?_
      refine H4.rg 1 fun a5 H5 => ?_
      refine H5.cl (R := fun v w' => ∃ b o c, v = .slice (some ⟨b, o, none⟩) 1 c ∧ w'.cell? ⟨b, o, none⟩ = some (.int .u8 (x.toNat : Int)) ∧ RdAt w' w.heap.size (w.heap.size + 1) s2 ∧ w5.grownBy w' (some (w.heap.size + 1))) ((refTake1Q w.heap.size (w.heap.size + 1) s1 e2 w5 R5.rd).mono ?_) ?_
      · rintro _ _ ⟨b, o, c, rfl, h1, h2, h3⟩
        exact ⟨_, rfl, b, o, c, rfl, h1, h2, h3⟩
      rintro a6 _ w6 ⟨b, o, c6, rfl, hcx, h3, h4⟩ H6
      have R6 := R5.call h3 h4
      refine H6.index gz rfl rfl rfl rfl rfl (index_1 31 Tryd.underlying31 (fun _ => by kernel_rfl) b o 1 c6 0 (by decide) _) fun a7 H7 => ?_
      refine H7.ld 1 (load1_u b (o + 0) _ _ hcx) fun a8 H8 => nt ?_
      refine H8.rg 1 fun a9 H9 => ?_
      refine H9.rc R6 1 (refNumR _ _ _ _ R6.rd) fun b1 w7 R7 H10 => ?_
      refine H10.si R7 0 fun b2 w8 R8 H11 => nt ?_
      rw [e3] at R8
      refine H11.rg 1 fun b3 H12 => ?_
      refine H12.bn 0 (and_u _ _ _ _ _) fun b4 H13 => ?_
      refine H13.bn 1 (bit_u x 2 (by omega) _ _ _) fun b5 H14 => ?_
      refine H14.bn 0 (and_u _ _ _ _ _) fun b6 H15 => ?_
      refine H15.bn 1 (bit_u x 64 (by omega) _ _ _) fun b7 H16 => ?_
      refine H16.bn 0 (and_u _ _ _ _ _) fun b8 H17 => ?_
      refine H17.bn 1 (bit_u x 128 (by omega) _ _ _) fun b9 H18 => ?_
      refine H18.sb R8 1 fun c3 y3 R9 H19 => ?_
      refine H19.sb R9 1 fun c4 y4 R10 H20 => ?_
      refine H20.sb R10 0 fun c5 y5 R11 H21 => nt ?_
      refine H21.rg 1 fun c6 H22 => ?_
      refine H22.rc R11 1 (refTextR _ _ _ _ R11.rd) fun c7 y7 R12 H23 => ?_
      refine H23.ss R12 0 fun c8 y8 R13 H24 => nt ?_
      rw [e4] at R13
      have R14 := R13.is (L' := mqCells { mq0 1 with keep := kk.1, client := c1.1, clean := bitB x 2, hp := bitB x 64, hu := bitB x 128 } nilV nilV nilV) rfl rfl
      have H25 := H24.keep (l' := [(8, .int .u8 (x.toNat : Int)), (4, .pointer (some ⟨w.heap.size, 0, none⟩)), (6, .pointer (some ⟨w.heap.size + 1, 0, none⟩)), (7, .pointer (some ⟨w.heap.size + 1 + 1, 0, none⟩))]) ⟨rfl, rfl, rfl, rfl, trivial⟩
      clear R5 R6 R7 R8 R9 R10 R11 R12 R13 R4 H1 H2 H3 H4 H5 H6 H7 H8 H9 H10 H11 H12 H13 H14 H15 H16 H17 H18 H19 H20 H21 H22 H23 H24
      refine wp_seq_join (fun a w' => Has a 185 [(4, .pointer (some ⟨w.heap.size, 0, none⟩)), (6, .pointer (some ⟨w.heap.size + 1, 0, none⟩)), (7, .pointer (some ⟨w.heap.size + 1 + 1, 0, none⟩))] ∧ Rst w1 w.heap.size (w.heap.size + 1) (w.heap.size + 1 + 1) s5 (mqCells { mq0 1 with keep := kk.1, client := c1.1, clean := bitB x 2, hp := bitB x 64, hu := bitB x 128, won := bitB x 4, wt := (if bitB x 4 then t.1 else nos), wp := (if bitB x 4 then y.1 else nos), wq := (if bitB x 4 then ((x >>> 3 &&& 3).toNat : Int) else 0), wr := (bitB x 4 && bitB x 32) } nilV nilV nilV) w') ?_ ?_
      · refine H25.rg 1 fun a3 H3 => ?_
        refine H3.bn 0 (and_u _ _ _ _ _) fun a4 H4 => ?_
        refine H4.bn 0 (bit_u x 4 (by omega) _ _ _) fun a5 H5 => nt ?_
        refine H5.cond (t := bitB x 4) rfl ?_
        cases b4 : bitB x 4 with
        | true =>
          rw [b4, if_pos rfl] at e5
          have hx3 : bits BinOp.and IntKind.u8 ((x.toNat : Int) / ((2 ^ 3 : Nat) : Int)) 3 = ((x >>> 3 &&& 3).toNat : Int) := shrU8 x
          have hx4 : ((x >>> 3 &&& 3).toNat : Int) < 256 := by have := (x >>> 3 &&& 3).toNat_lt; omega
          refine H5.rg 1 fun a6 H6 => ?_
          refine H6.bn 0 (shr_u _ 3 _ _ _ (.inr (.inl rfl))) fun a7 H7 => ?_
          refine H7.bn 0 (and_u _ _ _ _ _) fun a8 H8 => ?_
          rw [hx3] at H8
          refine H8.cv 1 (conv_53 ((x >>> 3 &&& 3).toNat : Int) (by omega) hx4 _) fun a9 H9 => ?_
          refine H9.bn 0 (and_u _ _ _ _ _) fun d1 H10 => ?_
          refine H10.bn 0 (bit_u x 32 (by omega) _ _ _) fun d2 H11 => ?_
          refine H11.any (w' := y8) gz rfl rfl (.agg #[.bool true, .string nos, .string nos, .int .i64 ((x >>> 3 &&& 3).toNat : Int), .bool (bitB x 32)]) (by intro cs b h; cases h) (by kernel_rfl) (by kernel_rfl) fun d3 H12 => ?_
          refine H12.ms 1 fun d4 H13 => ?_
          refine H13.sw R14 0 fun d5 z5 R15 H14 => nt ?_
          refine H14.rg 1 fun d6 H15 => ?_
          refine H15.rc R15 2 (refTextR _ _ _ _ R15.rd) fun d7 z7 R16 H16 => ?_
          refine H16.ss R16 0 fun d8 z8 R17 H17 => nt ?_
          rw [ht] at R17
          refine H17.rg 1 fun d9 H18 => ?_
          refine H18.rc R17 2 (refTextR _ _ _ _ R17.rd) fun e1 z9 R18 H19 => ?_
          refine H19.ss R18 0 fun e2 x1 R19 H20 => nt ?_
          rw [hy, e5] at R19
          exact ⟨H20.keep ⟨rfl, rfl, rfl, trivial⟩, R19.is rfl rfl⟩
        | false =>
          rw [b4, if_neg (by decide)] at e5
          exact skip_wp (then_normal ⟨H5.keep ⟨rfl, rfl, rfl, trivial⟩, R14.is rfl e5⟩)
      clear R14 H25
      rintro a0 w5 ⟨H0, R0⟩
      refine wp_seq_join (fun a w' => Has a 185 [(4, .pointer (some ⟨w.heap.size, 0, none⟩)), (6, .pointer (some ⟨w.heap.size + 1, 0, none⟩)), (7, .pointer (some ⟨w.heap.size + 1 + 1, 0, none⟩))] ∧ Rst w1 w.heap.size (w.heap.size + 1) (w.heap.size + 1 + 1) s6 (mqCells { mq0 1 with keep := kk.1, client := c1.1, clean := bitB x 2, hp := bitB x 64, hu := bitB x 128, won := bitB x 4, wt := (if bitB x 4 then t.1 else nos), wp := (if bitB x 4 then y.1 else nos), wq := (if bitB x 4 then ((x >>> 3 &&& 3).toNat : Int) else 0), wr := (bitB x 4 && bitB x 32), user := (if bitB x 128 then u.1 else nos) } nilV nilV nilV) w') ?_ ?_
      · refine H0.rg 1 fun a1 H1 => ?_
        refine H1.ld 0 (R0.lb 10) fun a2 H2 => nt ?_
        refine H2.cond (t := bitB x 128) rfl ?_
        cases b4 : bitB x 128 with
        | true =>
          rw [b4, if_pos rfl] at e6
          refine H2.rg 1 fun a3 H3 => ?_
          refine H3.rc R0 1 (refTextR _ _ _ _ R0.rd) fun a4 w4 R4 H4 => ?_
          refine H4.ss R4 0 fun a5 w5 R5 H5 => nt ?_
          rw [hu, e6] at R5
          exact ⟨H5.keep ⟨rfl, rfl, rfl, trivial⟩, R5.is (by rw [b4]; rfl) rfl⟩
        | false =>
          rw [b4, if_neg (by decide)] at e6
          exact skip_wp (then_normal ⟨H2.keep ⟨rfl, rfl, rfl, trivial⟩, R0.is (by rw [b4]; rfl) e6⟩)
      clear R0 H0
      rintro a0 w5 ⟨H0, R0⟩
      refine H0.rg 1 fun a1 H1 => ?_
      refine H1.ld 0 (R0.lb 12) fun a2 H2 => nt ?_
      refine H2.cond (t := bitB x 64) rfl ?_
      cases b4 : bitB x 64 with
      | true =>
        rw [b4, if_pos rfl] at e7
        refine H2.rg 1 fun a3 H3 => ?_
        refine H3.rc R0 1 (refTextR _ _ _ _ R0.rd) fun a4 w4 R4 H4 => ?_
        refine H4.ss R4 0 fun a5 w5 R5 H5 => ?_
        rw [hq, e7] at R5
        refine wpList_nil (block_normal (then_normal ⟨H5.keep ⟨rfl, rfl, rfl, trivial⟩, ?_⟩))
        exact hM _ _ _ _ nilV nilV nilV R5 rfl (by unfold Conn.mq; simp only [b4]; rfl) (rows_nil _ _ rfl rfl rfl)
      | false =>
        rw [b4, if_neg (by decide)] at e7
        refine skip_wp (block_normal (then_normal ⟨H2.keep ⟨rfl, rfl, rfl, trivial⟩, ?_⟩))
        exact hM _ _ _ _ nilV nilV nilV R0 e7 (by unfold Conn.mq; simp only [b4]; rfl) (rows_nil _ _ rfl rfl rfl)
    | false =>
    refine H2.rg 0 fun a1 H1 => ?_
    refine H1.bn 1 (eql_i _ _ _ _ _) fun a2 H2 => nt ?_
    refine H2.cond (t := k == 2) rfl ?_
    cases b2 : (k == 2) with
    | true =>
      have k1 : k = 2 := by simpa using b2
      subst k1
      obtain ⟨⟨ys, s2⟩, e1⟩ : ∃ r, takeR (xs, false) 2 = r := ⟨_, rfl⟩
      refine H2.rg 1 fun a3 H3 => ?_
      refine H3.cl (R := fun v w' => ∃ b o c, v = .slice (some ⟨b, o, none⟩) 2 c ∧ b ≠ w.heap.size + 1 + 1 ∧ (∃ x y : UInt8, ys.getD 0 0 = x ∧ ys.getD 1 0 = y ∧ w'.cell? ⟨b, o + 0, none⟩ = some (.int .u8 (x.toNat : Int)) ∧ w'.cell? ⟨b, o + 1, none⟩ = some (.int .u8 (y.toNat : Int))) ∧ RdAt w' w.heap.size (w.heap.size + 1) s2 ∧ w4.grownBy w' (some (w.heap.size + 1))) ((refTakeS w.heap.size (w.heap.size + 1) (xs, false) 2 2 rfl (by omega) (by omega) w4 R4.rd).mono ?_) ?_
      · rw [e1]
        rintro _ w5 ⟨⟨A5, p5, rfl, _, hl5, hr5, hR5, hg5⟩, hs5⟩
        obtain ⟨b5, o5, x, rfl, _, hx5, d5⟩ := hr5.get (k := 0) (by omega)
        obtain ⟨b5', o5', y, hA, _, hy5, d5'⟩ := hr5.get (k := 1) (by omega)
        obtain ⟨rfl, rfl⟩ := RB.same_at rfl hA
        have hb := hs5 _ _ _ rfl
        have hlt := R4.lt
        refine ⟨_, rfl, b5', o5', p5, rfl, ?_, ⟨x, y, ?_, ?_, d5, d5'⟩, hR5, hg5⟩
        · intro e
          subst e
          rcases hb with hb | hb
          · exact absurd (show w.heap.size + 1 + 1 < w.heap.size from hb) (by omega)
          · exact absurd (show w4.heap.size ≤ w.heap.size + 1 + 1 from hb) (by omega)
        · rw [List.getD_eq_getElem?_getD, hx5]; rfl
        · rw [List.getD_eq_getElem?_getD, hy5]; rfl
      rintro a4 _ w5 ⟨b, o, c, rfl, hne, ⟨x, y, hx0, hy0, hcx, hcy⟩, h3, h4⟩ H4
      have R5 := R4.call h3 h4
      refine H4.ms 1 fun a5 H5 => nt ?_
      have hy8 : (y.toNat : Int) < 256 := by have := y.toNat_lt; omega
      have hlx : ∀ w', w5.grownBy w' (some (w.heap.size + 1 + 1)) → (Instr.loadAt 5 (.pointer (some ⟨b, o + 0, none⟩))).run Tryd.prog w' = .ok (.int .u8 (x.toNat : Int)) w' := fun w' h => load1_u _ _ _ _ (h.cell hcx (by intro e; injection e with e; exact hne e))
      have hly : ∀ w', w5.grownBy w' (some (w.heap.size + 1 + 1)) → (Instr.loadAt 5 (.pointer (some ⟨b, o + 1, none⟩))).run Tryd.prog w' = .ok (.int .u8 (y.toNat : Int)) w' := fun w' h => load1_u _ _ _ _ (h.cell hcy (by intro e; injection e with e; exact hne e))
      refine H5.dg [9, 11] (fun w' => w5.grownBy w' (some (w.heap.size + 1 + 1))) (fun fl w' => Rst w1 w.heap.size (w.heap.size + 1) (w.heap.size + 1 + 1) s2 (setIf (fl.getD 0 false) 13 (.bool ((x.toNat : Int) == 1)) (setIf (fl.getD 1 false) 14 (.int .i64 (y.toNat : Int)) (mqCells (mq0 2) nilV nilV nilV))) w') [4, 6, 7, 9] rfl [ec 0 135 (.slice (some ⟨b, o, none⟩) 2 c), ec 1 136 (.pointer (some ⟨b, o + 0, none⟩)), ec 2 137 (.int .u8 (x.toNat : Int)), ec 3 138 (.bool ((x.toNat : Int) == 1)), ec 4 139 (.slice (some ⟨b, o, none⟩) 2 c), ec 5 140 (.pointer (some ⟨b, o + 1, none⟩)), ec 6 141 (.int .u8 (y.toNat : Int)), ec 7 142 (.int .i64 (y.toNat : Int)), ec 8 143 (.pointer (some ⟨w.heap.size + 1 + 1, 13, none⟩)), ec 10 144 (.pointer (some ⟨w.heap.size + 1 + 1, 14, none⟩))] [9, 11] rfl (below_grown (Below.drew (Below.refl _ _)) _) (R5.call (RdAt.drew R5.rd) (below_grown (Below.drew (Below.refl _ _)) _)) ⟨jm, jI rfl rfl rfl rfl rfl rfl fun _ => index_1 31 Tryd.underlying31 (fun _ => by kernel_rfl) b o 2 c 0 (by decide) _, jl hlx, jb fun _ => eql_5 _ _ _ _ _, jm, jI rfl rfl rfl rfl rfl rfl fun _ => index_1 31 Tryd.underlying31 (fun _ => by kernel_rfl) b o 2 c 1 (by decide) _, jl hly, jc fun _ => conv_53 _ (Int.natCast_nonneg _) hy8 _, jm, jm, trivial⟩ trivial ?_ ?_
      · intro listed aa ww i o' hs hni hcl ho hd hI hh
        have hW := hI.wp.2
        simp only [List.map_cons, List.map_nil, List.getD_cons_zero, List.getD_cons_succ] at hW
        rcases hh with hh | rfl | rfl | hh
        · exact False.elim hh
        · obtain rfl := pick_op ho rfl
          have HH : Has aa 185 _ := Has.of hI.sz hI.df (AllEv.app hI.fx (known_ok hI hd fun _ h => h))
          rw [hni] at hW
          obtain ⟨q1, q2⟩ := hW.ce 13 _ (List.getElem?_eq_getElem (by simp only [setIf_length]; decide))
          refine wpOp_do ho gz rfl _ (run_store rfl (HH.ev rfl) (HH.ev rfl) (store1_b _ _ _ _ _ q1 q2)) ?_
          exact hI.pd hs 9 (hI.wp.1.trans (grown_setCell _ _ _ _)) ((hW.set 13 _ (by simp only [setIf_length]; decide)).is rfl rfl) trivial
        · obtain rfl := pick_op ho rfl
          have HH : Has aa 185 _ := Has.of hI.sz hI.df (AllEv.app hI.fx (known_ok hI hd fun _ h => h))
          rw [hni] at hW
          obtain ⟨q1, q2⟩ := hW.ce 14 _ (List.getElem?_eq_getElem (by simp only [setIf_length]; decide))
          refine wpOp_do ho gz rfl _ (run_store rfl (HH.ev rfl) (HH.ev rfl) (store1_i _ _ _ _ _ q1 q2)) ?_
          exact hI.pd hs 11 (hI.wp.1.trans (grown_setCell _ _ _ _)) ((hW.set 14 _ (by simp only [setIf_length]; decide)).is (by rw [setIf_ne (by decide)]; rfl) rfl) trivial
        · exact False.elim hh
      · intro listed a w' hall hI
        refine block_normal (then_normal ⟨(hI.hs []).keep ⟨rfl, rfl, rfl, trivial⟩, ?_⟩)
        have hr : readR 2 f (xs, false) = ({ mq0 2 with present := x == 1, code := (y.toNat : Int) }, s2) := by
          unfold readR
          rw [if_neg (by decide), if_pos rfl]
          simp only [e1, hx0, hy0]
        rw [hr]
        exact hM _ _ _ _ nilV nilV nilV hI.wp.2 rfl (by rw [u8_is_one]; rfl) (rows_nil _ _ rfl rfl rfl)
    | false =>
    refine H2.rg 0 fun a1 H1 => ?_
    refine H1.bn 1 (eql_i _ _ _ _ _) fun a2 H2 => nt ?_
    refine H2.cond (t := k == 3) rfl ?_
    cases b3 : (k == 3) with
    | true =>
      have k1 : k = 3 := by simpa using b3
      subst k1
      have hq8 : bits BinOp.and IntKind.u8 ((f.toNat : Int) / ((2 ^ 1 : Nat) : Int)) 3 = ((f >>> 1 &&& 3).toNat : Int) := shrU2 f
      have hq9 : ((f >>> 1 &&& 3).toNat : Int) < 256 := by have := (f >>> 1 &&& 3).toNat_lt; omega
      refine H2.rg 1 fun a3 H3 => ?_
      refine H3.bn 0 (and_u _ _ _ _ _) fun a4 H4 => ?_
      refine H4.bn 1 (bit_u f 8 (by omega) _ _ _) fun a5 H5 => ?_
      refine H5.bn 0 (shr_u _ 1 _ _ _ (.inl rfl)) fun a6 H6 => ?_
      refine H6.bn 0 (and_u _ _ _ _ _) fun a7 H7 => ?_
      rw [hq8] at H7
      refine H7.cv 1 (conv_53 ((f >>> 1 &&& 3).toNat : Int) (by omega) hq9 _) fun a8 H8 => ?_
      refine H8.bn 0 (and_u _ _ _ _ _) fun a9 H9 => ?_
      refine H9.bn 1 (bit_u f 1 (by omega) _ _ _) fun b1 H10 => ?_
      refine H10.sb R4 1 fun b2 x2 R5 H11 => ?_
      refine H11.si R5 1 fun b3 x3 R6 H12 => ?_
      refine H12.sb R6 0 fun b4 x4 R7 H13 => nt ?_
      refine H13.rg 1 fun b5 H14 => ?_
      refine H14.rc R7 1 (refTextR _ _ _ _ R7.rd) fun b6 x6 R8 H15 => ?_
      refine H15.ss R8 0 fun b7 x7 R9 H16 => nt ?_
      obtain ⟨q, hq⟩ : ∃ q, (f >>> 1 &&& 3 != 0) = q := ⟨_, rfl⟩
      obtain ⟨s2, e2⟩ : ∃ s2, (if (f >>> 1 &&& 3 != 0) then (numR (textR (xs, false)).2).2 else (textR (xs, false)).2) = s2 := ⟨_, rfl⟩
      have R10 := R9.is (L' := mqCells { mq0 3 with dup := bitB f 8, qos := ((f >>> 1 &&& 3).toNat : Int), retain := bitB f 1, topic := (textR (xs, false)).1 } nilV nilV nilV) rfl rfl
      have hq3 : (decide ((0 : Int) < ((f >>> 1 &&& 3).toNat : Int))) = q := by
        rw [← hq, Bool.eq_iff_iff, decide_eq_true_iff, bne_iff_ne]
        constructor
        · intro h e; rw [e] at h; exact absurd h (by decide)
        · intro h
          have : (f >>> 1 &&& 3).toNat ≠ 0 := fun e => h (UInt8.toNat_inj.1 e)
          omega
      refine wp_seq_join (fun a w' => Has a 185 [(4, .pointer (some ⟨w.heap.size, 0, none⟩)), (6, .pointer (some ⟨w.heap.size + 1, 0, none⟩)), (7, .pointer (some ⟨w.heap.size + 1 + 1, 0, none⟩))] ∧ Rst w1 w.heap.size (w.heap.size + 1) (w.heap.size + 1 + 1) s2 (mqCells { mq0 3 with dup := bitB f 8, qos := ((f >>> 1 &&& 3).toNat : Int), retain := bitB f 1, topic := (textR (xs, false)).1, id := (if (f >>> 1 &&& 3 != 0) then ((numR (textR (xs, false)).2).1 : Int) else 0) } nilV nilV nilV) w') ?_ ?_
      · refine H16.rg 1 fun c1 H17 => ?_
        refine H17.ld 0 (R10.li 17) fun c2 H18 => ?_
        refine H18.bn 0 (gtr_i _ _ q hq3 _ _ _) fun c3 H19 => nt ?_
        refine H19.cond rfl ?_
        rw [hq] at e2 ⊢
        cases q with
        | true =>
          rw [if_pos rfl] at e2
          refine H19.rg 1 fun c4 H20 => ?_
          refine H20.rc R10 1 (refNumR _ _ _ _ R10.rd) fun c5 y5 R11 H21 => ?_
          refine H21.si R11 0 fun c6 y6 R12 H22 => nt ?_
          exact ⟨H22.keep ⟨rfl, rfl, rfl, trivial⟩, R12.is rfl e2⟩
        | false =>
          rw [if_neg (by decide)] at e2
          exact skip_wp (then_normal ⟨H19.keep ⟨rfl, rfl, rfl, trivial⟩, R10.is rfl e2⟩)
      clear R4 R5 R6 R7 R8 R9 R10 H1 H2 H3 H4 H5 H6 H7 H8 H9 H10 H11 H12 H13 H14 H15 H16
      rintro a0 w0 ⟨H0, R0⟩
      obtain ⟨A', c', hcl, c0, c1, _, _, hrb, _, _⟩ := R0.rd
      refine H0.rg 2 fun a1 H1 => ?_
      refine H1.go gz rfl rfl _ (run_field rfl (H1.ev rfl) (off0 := 0) (off := 0) (fun g w => by kernel_rfl)) fun a2 H2 => ?_
      refine H2.ld 0 (load1_31 _ _ _ _ _ _ c0) fun a3 H3 => ?_
      refine H3.cv 1 (run_string_of Tryd.underlying31 Tryd.underlying5 Tryd.underlying9 hrb rfl c') fun a4 H4 => ?_
      refine H4.ss R0 0 fun a5 w5 R5 H5 => ?_
      refine wpList_nil (block_normal (then_normal ⟨H5.keep ⟨rfl, rfl, rfl, trivial⟩, ?_⟩))
      refine hM _ _ _ _ nilV nilV nilV R5 ?_ ?_ (rows_nil _ _ rfl rfl rfl)
      · subst e2; rfl
      · subst e2; rfl
    | false =>
    have n1 := kind_not b1
    have n2 := kind_not b2
    have n3 := kind_not b3
    refine wp_seq_join (fun a w' => Has a 185 [(4, .pointer (some ⟨w.heap.size, 0, none⟩)), (6, .pointer (some ⟨w.heap.size + 1, 0, none⟩)), (7, .pointer (some ⟨w.heap.size + 1 + 1, 0, none⟩)), (175, .bool (bareKind k))] ∧ w4 = w') ?_ ?_
    · refine H2.rg 0 fun a1 H1 => ?_
      refine H1.bn 1 (eql_i _ _ _ _ _) fun a2 H2 => nt ?_
      refine H2.cond (t := k == 12) rfl ?_
      cases c1 : (k == 12) with
      | true => exact skip_wp (then_normal ⟨H2.keep ⟨rfl, rfl, rfl, congrArg (fun b => some (Value.bool b)) (show (k == 12) = bareKind k by unfold bareKind; rw [c1]; rfl), trivial⟩, rfl⟩)
      | false =>
      refine H2.rg 0 fun a1 H1 => ?_
      refine H1.bn 1 (eql_i _ _ _ _ _) fun a2 H2 => nt ?_
      refine H2.cond (t := k == 13) rfl ?_
      cases c2 : (k == 13) with
      | true => exact skip_wp (then_normal ⟨H2.keep ⟨rfl, rfl, rfl, congrArg (fun b => some (Value.bool b)) (show (k == 13) = bareKind k by unfold bareKind; rw [c1, c2]; rfl), trivial⟩, rfl⟩)
      | false =>
      refine H2.rg 0 fun a1 H1 => ?_
      refine H1.bn 1 (eql_i _ _ _ _ _) fun a2 H2 => nt ?_
      exact ⟨H2.keep ⟨rfl, rfl, rfl, congrArg (fun b => some (Value.bool b)) (by unfold bareKind; rw [c1, c2]; rfl), trivial⟩, rfl⟩
    clear H1 H2
    rintro a0 _ ⟨H0, rfl⟩
    refine H0.cond (t := bareKind k) rfl ?_
    cases b4 : bareKind k with
    | true =>
      have hr : readR k f (xs, false) = (mq0 k, (xs, false)) := by unfold readR; rw [if_neg n1, if_neg n2, if_neg n3, if_pos b4]
      rw [hr]
      refine skip_wp (block_normal (then_normal ⟨H0.keep ⟨rfl, rfl, rfl, trivial⟩, ?_⟩))
      exact hM _ _ _ _ nilV nilV nilV R4 rfl rfl (rows_nil _ _ rfl rfl rfl)
    | false =>
    have hr : readR k f (xs, false) = loopR k 8 { mq0 k with id := ((numR (xs, false)).1 : Int) } (numR (xs, false)).2 := by unfold readR; rw [if_neg n1, if_neg n2, if_neg n3, if_neg (by rw [b4]; decide)]
    rw [hr]
    refine H0.rg 1 fun a1 H1 => ?_
    refine H1.rc R4 1 (refNumR _ _ _ _ R4.rd) fun a2 w5 R5 H2 => ?_
    refine H2.si R5 0 fun a3 w6 R6 H3 => nt ?_
    refine H3.rg 1 fun a4 H4 => nt ?_
    refine wp_block ?_
    refine wp_loop_up 8 (fun i a w' => Has a 185 [(4, .pointer (some ⟨w.heap.size, 0, none⟩)), (6, .pointer (some ⟨w.heap.size + 1, 0, none⟩)), (7, .pointer (some ⟨w.heap.size + 1 + 1, 0, none⟩)), (10, .int .i64 (i : Int))] ∧ ∃ m s' vc vw vf, loopR k (8 - i) m s' = loopR k 8 { mq0 k with id := ((numR (xs, false)).1 : Int) } (numR (xs, false)).2 ∧ m.kind = k ∧ m.codes.length ≤ i ∧ m.wishes.length ≤ i ∧ m.filters.length ≤ i ∧ Rst w1 w.heap.size (w.heap.size + 1) (w.heap.size + 1 + 1) s' (mqCells m vc vw vf) w' ∧ Rows3 w' (w.heap.size + 1 + 1 + 1) m vc vw vf) ?_ ?_
    · exact ⟨H4.keep ⟨rfl, rfl, rfl, rfl, trivial⟩, _, _, nilV, nilV, nilV, rfl, rfl, Nat.le_refl _, Nat.le_refl _, Nat.le_refl _, R6.is (L' := mqCells { mq0 k with id := ((numR (xs, false)).1 : Int) } nilV nilV nilV) rfl rfl, rows_nil _ _ rfl rfl rfl⟩
    clear H0 H1 H2 H3 H4 R5 R6 R4
    rintro i a0 w5 hi ⟨H0, m, s', vc, vw, vf, hL, hkm, hl1, hl2, hl3, R5, hrows⟩
    obtain ⟨A', c', hcl, c0, _, _, _, _, _, _⟩ := id R5.rd
    refine wp_seq_join (fun a w' => (i < 8 ∧ 0 < s'.1.length) ∧ Has a 185 [(4, .pointer (some ⟨w.heap.size, 0, none⟩)), (6, .pointer (some ⟨w.heap.size + 1, 0, none⟩)), (7, .pointer (some ⟨w.heap.size + 1 + 1, 0, none⟩)), (10, .int .i64 (i : Int))] ∧ w5 = w') ?_ ?_
    · by_cases hlt : i < 8
      · refine H0.rg 1 fun a1 H1 => ?_
        refine H1.bb 1 rfl rfl rfl rfl rfl rfl (lss_i _ _ true (by simp; omega) _ _ _) rfl fun a2 H2 => ?_
        refine H2.move (H2.wt rfl rfl rfl) (.inl rfl) rfl rfl rfl fun a3 H3 => ?_
        refine H3.go (H3.wt rfl rfl rfl) rfl rfl (.pointer (some ⟨w.heap.size + 1, 0, none⟩)) (by unfold execOp; simp only [H3.ev (x := .tmp 27) rfl]; rfl) fun a4 H4 => ?_
        refine H4.go (H4.wt rfl rfl rfl) rfl rfl _ (run_field rfl (H4.ev rfl) (off0 := 0) (off := 0) (fun g w => by kernel_rfl)) fun a5 H5 => ?_
        refine H5.load (H5.wt rfl rfl rfl) rfl rfl rfl rfl (load1_31 _ _ _ _ _ _ c0) fun a6 H6 => ?_
        refine H6.len (H6.wt rfl rfl rfl) rfl rfl rfl rfl Tryd.underlying31 fun a7 H7 => ?_
        refine H7.bin (H7.wt rfl rfl rfl) rfl rfl rfl rfl rfl (gtr_i _ _ (decide (0 < s'.1.length)) (by simp) _ _ _) fun a8 H8 => ?_
        refine H8.pick gz rfl rfl rfl rfl rfl fun a9 H9 => nt ?_
        refine H9.cond (t := decide (0 < s'.1.length)) rfl ?_
        by_cases hp : 0 < s'.1.length
        · rw [decide_eq_true hp]
          exact skip_wp (then_normal ⟨⟨hlt, hp⟩, H9.keep ⟨rfl, rfl, rfl, rfl, trivial⟩, rfl⟩)
        · rw [decide_eq_false hp]
          have e : loopR k (8 - i) m s' = (m, s') := by
            cases 8 - i with
            | zero => rfl
            | succ n => unfold loopR; rw [if_neg hp]
          refine wp_exit ?_
          repeat (with_reducible refine then_exit ?_)
          refine block_leave (block_normal (then_normal ⟨H9.keep ⟨rfl, rfl, rfl, trivial⟩, ?_⟩))
          rw [← hL, e]
          exact hM _ _ _ _ vc vw vf R5 rfl rfl hrows
      · have e8 : 8 - i = 0 := by omega
        have e : loopR k (8 - i) m s' = (m, s') := by rw [e8]; rfl
        refine H0.rg 1 fun a1 H1 => ?_
        refine H1.bb 1 rfl rfl rfl rfl rfl rfl (lss_i _ _ false (by simp; omega) _ _ _) rfl fun a2 H2 => ?_
        refine H2.offs 6 rfl fun a8 H8 => ?_
        refine H8.pick gz rfl rfl rfl rfl rfl fun a9 H9 => nt ?_
        refine H9.condF rfl ?_
        refine wp_exit ?_
        repeat (with_reducible refine then_exit ?_)
        refine block_leave (block_normal (then_normal ⟨H9.keep ⟨rfl, rfl, rfl, trivial⟩, ?_⟩))
        rw [← hL, e]
        exact hM _ _ _ _ vc vw vf R5 rfl rfl hrows
    rintro a1 _ ⟨⟨hlt, hp⟩, H1, rfl⟩
    obtain ⟨vc', vw', vf', hvc, hvw, hvf⟩ : ∃ a b c, a = vc ∧ b = vw ∧ c = vf := ⟨_, _, _, rfl, rfl, rfl⟩
    have J5 : RJ w w1 s' m vc vw vf w5 := ⟨R5, hrows⟩
    obtain ⟨Ac, cc, rfl, _, _⟩ := own_shape hrows.1
    obtain ⟨Aw, cw, rfl, _, _⟩ := own_shape hrows.2.1
    obtain ⟨Af, cf, rfl, _, _⟩ := own_shape hrows.2.2
    have hL' := hL
    rw [show 8 - i = (8 - (i + 1)) + 1 by omega, loopR, if_pos hp] at hL'
    refine wp_seq_join (fun a w' => Has a 185 [(4, .pointer (some ⟨w.heap.size, 0, none⟩)), (6, .pointer (some ⟨w.heap.size + 1, 0, none⟩)), (7, .pointer (some ⟨w.heap.size + 1 + 1, 0, none⟩)), (10, .int .i64 (i : Int))] ∧ ∃ m s' vc vw vf, loopR k (8 - (i + 1)) m s' = loopR k 8 { mq0 k with id := ((numR (xs, false)).1 : Int) } (numR (xs, false)).2 ∧ m.kind = k ∧ m.codes.length ≤ i + 1 ∧ m.wishes.length ≤ i + 1 ∧ m.filters.length ≤ i + 1 ∧ RJ w w1 s' m vc vw vf w') ?_ ?_
    · refine wp_block ?_
      refine H1.rg 1 fun a2 H2 => ?_
      refine H2.ld 0 (R5.li 0) fun a3 H3 => nt ?_
      rw [hkm] at H3
      refine wp_block ?_
      refine H3.rg 0 fun a1 H1 => ?_
      refine H1.bn 1 (eql_i _ _ _ _ _) fun a2 H2 => nt ?_
      refine H2.cond (t := k == 8) rfl ?_
      cases b8 : (k == 8) with
      | true =>
        have k8 : k = 8 := by simpa using b8
        rw [if_pos k8] at hL'
        obtain ⟨⟨y, s5⟩, e5⟩ : ∃ r, textR s' = r := ⟨_, rfl⟩
        obtain ⟨⟨x, s6⟩, e6⟩ : ∃ r, oneR s5 = r := ⟨_, rfl⟩
        rw [e5] at hL'
        simp only [e6] at hL'
        refine H2.rg 1 fun a3 H3 => ?_
        refine H3.cl (textC e5 _ R5.rd) ?_
        rintro a4 _ w6 ⟨rfl, h1, h2⟩ H4
        have J6 := J5.call h1 h2
        refine H4.ms 1 fun a5 H5 => nt ?_
        refine H5.sg (RJ w w1 s5 m _ _ _) (J6.below (Below.drew (Below.refl _ _))) [4, 6, 7, 10, 11] [ec 0 42 (.pointer (some ⟨w.heap.size + 1 + 1, 22, none⟩)), ec 1 43 (.slice Aw m.wishes.length cw), ec 2 44 (.string y), ec 3 45 (.pointer (some ⟨w.heap.size + 1, 0, none⟩))] rfl ?_
        refine St.call 4 ⟨jm, jl fun _ h => load1_27 _ _ _ _ _ _ (h.r.ce.get 22 _ rfl), jm, jm, trivial⟩ (fun wx h => take1C e6 wx h.r.rd) ?_
        rintro wx _ w2 h ⟨b, o, c, rfl, hcx, h3, h4⟩
        have hx8 := x.toNat_lt
        refine nx (fun w' => RJ w w1 s6 m _ _ _ w' ∧ w'.cell? ⟨b, o + 0, none⟩ = some (.int .u8 (x.toNat : Int))) [ec 5 47 (.pointer (some ⟨b, o + 0, none⟩)), ec 6 48 (.int .u8 (x.toNat : Int)), ec 7 49 (.int .i64 (x.toNat : Int)), ec 8 50 (.agg #[.string y, .int .i64 (x.toNat : Int)])] [] ⟨h.call h3 h4, hcx⟩ ?_
        refine St.val 9 ⟨jI rfl rfl rfl rfl rfl rfl fun _ => index_1 31 Tryd.underlying31 (fun _ => by kernel_rfl) b o 1 c 0 (by decide) _, jl fun _ h => load1_u _ _ _ _ h.2, jc fun _ => conv_53 _ (by omega) (by omega) _, ja fun _ => by kernel_rfl, jm, jl fun _ h => load1_27 _ _ _ _ _ _ (h.1.r.ce.get 22 _ rfl), jm, trivial⟩ ?_
        intro a wx H _ h
        refine ⟨.slice (some ⟨wx.heap.size, 0, none⟩) 1 1, wx.alloc (.cells (wv [(y, (x.toNat : Int))]).toArray 95), run_any H (by intro cs b h; cases h) (by kernel_rfl) (by kernel_rfl), ?_⟩
        generalize hgl : wx.heap.size = gl
        refine nx (fun w' => RJ w w1 s6 m _ _ _ w' ∧ Reads w' w'.heap.size 2 (some ⟨gl, 0, none⟩) 1 (wv [(y, (x.toNat : Int))])) [] [] ⟨h.1.below (balloc _ _), by subst hgl; exact Reads.lit wx 95 _ (0, 0) 2 1 rfl⟩ ?_
        refine St.app 10 info_wish ⟨jm, jl fun _ h => load1_27 _ _ _ _ _ _ (h.1.r.ce.get 22 _ rfl), trivial⟩ (fun _ h => ⟨h.1.rows.2.1, h.2, h.1.le⟩) (one_wv _) (low_len (by omega)) ?_
        intro wx A' c' w' h hO hg
        refine nx (fun w' => ∃ wx, RJ w w1 s6 m _ _ _ wx ∧ wx.grownBy w' (Value.slice Aw m.wishes.length cw).ownBlock ∧ w'.ownsRow _ _ _ (.slice A' (m.wishes.length + 1) c') _ _) [ec 11 53 (.pointer (some ⟨w.heap.size + 1 + 1, 22, none⟩))] [] ⟨wx, h.1, hg, hO⟩ ?_
        refine St.sto 12 ⟨jm, trivial⟩ ?_
        rintro a wx H _ ⟨wy, h, hg, hO⟩
        have hR := h.cells h.rows.2.1 hg
        refine ⟨_, run_store rfl (H.ev rfl) (H.ev rfl) (store1_27 _ _ _ _ _ _ _ (hR.ce.get 22 _ rfl) (hR.ce.fr 22 rfl)), ?_⟩
        refine nx0 (RJ w w1 s6 { m with wishes := m.wishes ++ [(y, (x.toNat : Int))] } _ _ _) [] [] (h.wish hg hO) ?_
        refine St.fin trivial ?_
        intro a w' H _ h
        repeat (first | (with_reducible refine block_normal ?_) | (with_reducible refine then_normal ?_))
        refine ⟨H.keep ⟨rfl, rfl, rfl, rfl, trivial⟩, _, _, _, _, _, hL', hkm, ?_, ?_, ?_, h⟩
        · show m.codes.length ≤ _; omega
        · show (m.wishes ++ _).length ≤ _; simp; omega
        · show m.filters.length ≤ _; omega
      | false =>
      have k8 := kind_not b8
      rw [if_neg k8] at hL'
      refine H2.rg 0 fun a1 H1 => ?_
      refine H1.bn 1 (eql_i _ _ _ _ _) fun a2 H2 => nt ?_
      refine H2.cond (t := k == 9) rfl ?_
      cases b9 : (k == 9) with
      | true =>
        have k9 : k = 9 := by simpa using b9
        rw [if_pos k9] at hL'
        obtain ⟨⟨x, s6⟩, e6⟩ : ∃ r, oneR s' = r := ⟨_, rfl⟩
        simp only [e6] at hL'
        refine H2.sg (RJ w w1 s' m _ _ _) (J5.below (Below.drew (Below.refl _ _))) [4, 6, 7, 10] [ec 0 56 (.pointer (some ⟨w.heap.size + 1 + 1, 15, none⟩)), ec 1 57 (.slice Ac m.codes.length cc), ec 2 58 (.pointer (some ⟨w.heap.size + 1, 0, none⟩))] rfl ?_
        refine St.call 3 ⟨jm, jl fun _ h => load1_26 _ _ _ _ _ _ (h.r.ce.get 15 _ rfl), jm, trivial⟩ (fun wx h => take1C e6 wx h.r.rd) ?_
        rintro wx _ w2 h ⟨b, o, c, rfl, hcx, h3, h4⟩
        have hx8 := x.toNat_lt
        refine nx (fun w' => RJ w w1 s6 m _ _ _ w' ∧ w'.cell? ⟨b, o + 0, none⟩ = some (.int .u8 (x.toNat : Int))) [ec 4 60 (.pointer (some ⟨b, o + 0, none⟩)), ec 5 61 (.int .u8 (x.toNat : Int)), ec 6 62 (.int .i64 (x.toNat : Int))] [] ⟨h.call h3 h4, hcx⟩ ?_
        refine St.val 7 ⟨jI rfl rfl rfl rfl rfl rfl fun _ => index_1 31 Tryd.underlying31 (fun _ => by kernel_rfl) b o 1 c 0 (by decide) _, jl fun _ h => load1_u _ _ _ _ h.2, jc fun _ => conv_53 _ (by omega) (by omega) _, jm, jl fun _ h => load1_26 _ _ _ _ _ _ (h.1.r.ce.get 15 _ rfl), trivial⟩ ?_
        intro a wx H _ h
        refine ⟨.slice (some ⟨wx.heap.size, 0, none⟩) 1 1, wx.alloc (.cells [iv (x.toNat : Int)].toArray 3), run_any H (by intro cs b h; cases h) (by kernel_rfl) (by kernel_rfl), ?_⟩
        generalize hgl : wx.heap.size = gl
        refine nx (fun w' => RJ w w1 s6 m _ _ _ w' ∧ Reads w' w'.heap.size 1 (some ⟨gl, 0, none⟩) 1 [iv (x.toNat : Int)]) [] [] ⟨h.1.below (balloc _ _), by subst hgl; exact Reads.lit wx 3 _ (0, 0) 1 1 rfl⟩ ?_
        refine St.app 8 info_int ⟨jm, jl fun _ h => load1_26 _ _ _ _ _ _ (h.1.r.ce.get 15 _ rfl), trivial⟩ (fun _ h => ⟨h.1.rows.1, h.2, h.1.le⟩) (one_iv _) ⟨(low_len (by omega)).1, by omega⟩ ?_
        intro wx A' c' w' h hO hg
        refine nx (fun w' => ∃ wx, RJ w w1 s6 m _ _ _ wx ∧ wx.grownBy w' (Value.slice Ac m.codes.length cc).ownBlock ∧ w'.ownsRow _ _ _ (.slice A' (m.codes.length + 1) c') _ _) [ec 9 65 (.pointer (some ⟨w.heap.size + 1 + 1, 15, none⟩))] [] ⟨wx, h.1, hg, hO⟩ ?_
        refine St.sto 10 ⟨jm, trivial⟩ ?_
        rintro a wx H _ ⟨wy, h, hg, hO⟩
        have hR := h.cells h.rows.1 hg
        refine ⟨_, run_store rfl (H.ev rfl) (H.ev rfl) (store1_26 _ _ _ _ _ _ _ (hR.ce.get 15 _ rfl) (hR.ce.fr 15 rfl)), ?_⟩
        refine nx0 (RJ w w1 s6 { m with codes := m.codes ++ [(x.toNat : Int)] } _ _ _) [] [] (h.code hg hO) ?_
        refine St.fin trivial ?_
        intro a w' H _ h
        repeat (first | (with_reducible refine block_normal ?_) | (with_reducible refine then_normal ?_))
        refine ⟨H.keep ⟨rfl, rfl, rfl, rfl, trivial⟩, _, _, _, _, _, hL', hkm, ?_, ?_, ?_, h⟩
        · show (m.codes ++ _).length ≤ _; simp; omega
        · show m.wishes.length ≤ _; omega
        · show m.filters.length ≤ _; omega
      | false =>
      have k9 := kind_not b9
      rw [if_neg k9] at hL'
      refine H2.rg 0 fun a1 H1 => ?_
      refine H1.bn 1 (eql_i _ _ _ _ _) fun a2 H2 => nt ?_
      refine H2.cond (t := k == 10) rfl ?_
      cases b10 : (k == 10) with
      | true =>
        have k10 : k = 10 := by simpa using b10
        rw [if_pos k10] at hL'
        obtain ⟨⟨y, s6⟩, e6⟩ : ∃ r, textR s' = r := ⟨_, rfl⟩
        simp only [e6] at hL'
        refine H2.sg (RJ w w1 s' m _ _ _) (J5.below (Below.drew (Below.refl _ _))) [4, 6, 7, 10] [ec 0 68 (.pointer (some ⟨w.heap.size + 1 + 1, 23, none⟩)), ec 1 69 (.slice Af m.filters.length cf), ec 2 70 (.pointer (some ⟨w.heap.size + 1, 0, none⟩))] rfl ?_
        refine St.call 3 ⟨jm, jl fun _ h => load1_28 _ _ _ _ _ _ (h.r.ce.get 23 _ rfl), jm, trivial⟩ (fun wx h => textC e6 wx h.r.rd) ?_
        rintro wx _ w2 h ⟨rfl, h3, h4⟩
        refine nx (RJ w w1 s6 m _ _ _) [] [] (h.call h3 h4) ?_
        refine St.val 4 ⟨jm, jl fun _ h => load1_28 _ _ _ _ _ _ (h.r.ce.get 23 _ rfl), trivial⟩ ?_
        intro a wx H _ h
        refine ⟨.slice (some ⟨wx.heap.size, 0, none⟩) 1 1, wx.alloc (.cells [sv y].toArray 9), run_any H (by intro cs b h; cases h) (by kernel_rfl) (by kernel_rfl), ?_⟩
        generalize hgl : wx.heap.size = gl
        refine nx (fun w' => RJ w w1 s6 m _ _ _ w' ∧ Reads w' w'.heap.size 1 (some ⟨gl, 0, none⟩) 1 [sv y]) [] [] ⟨h.below (balloc _ _), by subst hgl; exact Reads.lit wx 9 _ (0, 0) 1 1 rfl⟩ ?_
        refine St.app 5 info_string ⟨jm, jl fun _ h => load1_28 _ _ _ _ _ _ (h.1.r.ce.get 23 _ rfl), trivial⟩ (fun _ h => ⟨h.1.rows.2.2, h.2, h.1.le⟩) (one_sv _) ⟨(low_len (by omega)).1, by omega⟩ ?_
        intro wx A' c' w' h hO hg
        refine nx (fun w' => ∃ wx, RJ w w1 s6 m _ _ _ wx ∧ wx.grownBy w' (Value.slice Af m.filters.length cf).ownBlock ∧ w'.ownsRow _ _ _ (.slice A' (m.filters.length + 1) c') _ _) [ec 6 74 (.pointer (some ⟨w.heap.size + 1 + 1, 23, none⟩))] [] ⟨wx, h.1, hg, hO⟩ ?_
        refine St.sto 7 ⟨jm, trivial⟩ ?_
        rintro a wx H _ ⟨wy, h, hg, hO⟩
        have hR := h.cells h.rows.2.2 hg
        refine ⟨_, run_store rfl (H.ev rfl) (H.ev rfl) (store1_28 _ _ _ _ _ _ _ (hR.ce.get 23 _ rfl) (hR.ce.fr 23 rfl)), ?_⟩
        refine nx0 (RJ w w1 s6 { m with filters := m.filters ++ [y] } _ _ _) [] [] (h.filt hg hO) ?_
        refine St.fin trivial ?_
        intro a w' H _ h
        repeat (first | (with_reducible refine block_normal ?_) | (with_reducible refine then_normal ?_))
        refine ⟨H.keep ⟨rfl, rfl, rfl, rfl, trivial⟩, _, _, _, _, _, hL', hkm, ?_, ?_, ?_, h⟩
        · show m.codes.length ≤ _; omega
        · show m.wishes.length ≤ _; omega
        · show (m.filters ++ _).length ≤ _; simp; omega
      | false =>
        rw [if_neg (kind_not b10)] at hL'
        refine skip_wp ?_
        repeat (first | (with_reducible refine block_normal ?_) | (with_reducible refine then_normal ?_))
        exact ⟨H2.keep ⟨rfl, rfl, rfl, rfl, trivial⟩, _, _, _, _, _, hL', hkm, by omega, by omega, by omega, J5⟩
    clear J5 R5 hrows hL hL' H1 H0
    rintro a0 wx ⟨H0, m, s', vc, vw, vf, hL, hkm, hl1, hl2, hl3, J⟩
    refine H0.rg 1 fun a1 H1 => ?_
    refine H1.bb 1 rfl rfl rfl rfl rfl rfl (succ_i i (by omega) _ _ _) rfl fun a2 H2 => nt ?_
    exact ⟨hlt, H2.keep ⟨rfl, rfl, rfl, rfl, trivial⟩, m, s', vc, vw, vf, hL, hkm, hl1, hl2, hl3, J.r, J.rows⟩
  clear hM R4 H13
  generalize readR k f (xs, false) = r
  rintro a0 wx ⟨H0, hR, hG, vc, vw, vf, hC, hrows⟩
  have hL0 : Cells wx w.heap.size (mqCells (mq0 0) nilV nilV nilV) := hC1.kept hG (by omega) (by intro e; injection e with e; omega)
  obtain ⟨A', c', hcl, c0, c1, _, _, hrb, _, hgl⟩ := id hR
  have hload : ∀ w', wx.grownBy w' (some w.heap.size) → (Instr.loadAt 30 (.pointer (some ⟨w.heap.size + 1 + 1, 0, none⟩))).run Tryd.prog w' = .ok (.agg (mqCells r.1 vc vw vf).toArray) w' := fun w' h =>
    run_loadAt_mid w' _ 0 30 _ _ (fun j v hv => by rw [Nat.zero_add]; exact h.cell (hC j v hv).1 (by intro e; injection e with e; exact absurd (show w.heap.size + 1 + 1 = w.heap.size from e) (by omega))) Tryd.underlying30 rfl size_mq
  have hbad : ∀ w', wx.grownBy w' (some w.heap.size) → (Instr.loadAt 4 (.pointer (some ⟨w.heap.size + 1, 1, none⟩))).run Tryd.prog w' = .ok (.bool r.2.2) w' := fun w' h =>
    load1_b _ _ _ _ (h.cell c1 (by intro e; injection e with e; exact absurd (show w.heap.size + 1 = w.heap.size from e) (by omega)))
  refine H0.dg [6] (fun w' => wx.grownBy w' (some w.heap.size)) (fun fl w' => Cells w' w.heap.size (bif fl.headD false then mqCells r.1 vc vw vf else mqCells (mq0 0) nilV nilV nilV)) [4, 6, 7] rfl [ec 0 179 (.agg (mqCells r.1 vc vw vf).toArray), ec 1 180 (.pointer (some ⟨w.heap.size + 1, 0, none⟩)), ec 2 181 (.pointer (some ⟨w.heap.size + 1, 0, none⟩)), ec 3 182 (.pointer (some ⟨w.heap.size + 1, 1, none⟩)), ec 4 183 (.bool r.2.2), ec 5 184 (.bool (!r.2.2)), ec 7 5 (.bool (!r.2.2))] [6] rfl (below_grown (Below.drew (Below.refl _ _)) _) hL0 ⟨jl hload, jm, jm, jf (off0 := 0) (off := 1) (fun _ _ => by kernel_rfl), jl hbad, ju, jm, trivial⟩ trivial ?_ ?_
  · intro listed aa ww i o hs hni hcl ho hd hI hh
    rcases hh with hh | rfl | hh
    · exact False.elim hh
    · obtain rfl := pick_op ho rfl
      have HH : Has aa 185 _ := Has.of hI.sz hI.df (AllEv.app hI.fx (known_ok hI hd fun _ h => h))
      have hW : Cells ww w.heap.size (mqCells (mq0 0) nilV nilV nilV) := by
        have := hI.wp.2
        simp only [List.map_cons, List.map_nil, hni, List.headD_cons, cond_false] at this
        exact this
      refine wpOp_store_cells ho gz rfl _ _ _ rfl w.heap.size (HH.ev rfl) (mqCells r.1 vc vw vf) (HH.ev rfl) hW 24 size_mq rfl rfl (mq_one _ (own_one hrows.1) (own_one hrows.2.1) (own_one hrows.2.2)) ?_
      intro w' hg hs' hC'
      exact hI.pd hs 6 (hI.wp.1.trans hg) hC' trivial
    · exact False.elim hh
  · intro listed a w' hall hI
    have H1 : Has a 185 [(4, .pointer (some ⟨w.heap.size, 0, none⟩)), (5, .bool (!r.2.2))] := Has.of hI.sz hI.df ⟨hI.fx.1, hI.vs _ (ma 6 rfl) (.inr (hall 7 (by decide))) trivial, trivial⟩
    refine then_normal (wp_ret (bodyPost_ret (results_cells_bool rfl _ _ (H1.at_ 4 _ rfl) hI.wp.2 Tryd.underlying30 rfl 24 size_mq rfl _ (H1.at_ 5 _ rfl)) H1.df ?_))
    exact rd_fin hb1 hs1 hG hrows hI.wp.1
end Go.Proofs.YtkcdkjpmbjcmdaaDoor

/-
  From a walk to a row, for a law of one argument that answers a bool and leaves its argument alone; variables are listed.
-/
namespace Go.Proofs.YtkcdkjpmbjcmdaaDoor
open Go.ChangeShapes Go.WideShapes Go.ChangeAt Go.RowKit Go.Deep

theorem own_knob : ownKnob Tryd.prog.godebug = none := by kernel_rfl
theorem laid_out : laidOutB Tryd.prog = true := by kernel_rfl

section
variable {H : Type} {enc : TypeId × Value → H} {P : Program}
theorem post_of_below {f : Func} {s : ChangeSpec} {apart fresh handsOn again : Bool} {W W' : World} {args : Array Value} {v : Value} {ds gs : List (DataW H)} {before pa pv : List MemPlace}
    (hW : DataW.Whole enc P f.params.toList s.vars apart W args.toList ds gs before)
    (hres : ∀ (b : Nat) (sp : Nat → Bool) (hd : Bool), DataW.TrodAll enc P W' b sp hd f.resultTypes.toList (v.resultList f.resultTypes.size) (s.fn H (ds ++ gs)).results [])
    (hargs : ∀ sp : Nat → Bool, (∀ p ∈ before, sp p.block = true) → DataW.TrodAll enc P W' 0 sp true f.params.toList args.toList (s.fn H (ds ++ gs)).args pa)
    (hvars : ∀ sp : Nat → Bool, (∀ p ∈ before, sp p.block = true) → DataW.TrodVars enc P W' sp s.vars (s.fn H (ds ++ gs)).vars pv)
    (hps : before = pa ++ pv) (hb : Below W.heap.size W W')
    (hok : ∀ (j : Nat) (t : TypeId) (r : Value), f.resultTypes[j]? = some t → (v.resultList f.resultTypes.size)[j]? = some r → Value.okWide P W' .any 0 t r) :
    s.post enc P f apart fresh handsOn again W args v W' := by
  have hlt : ∀ p ∈ before, p.block < W.heap.size := fun p hp => hW.lt p hp
  have hold : ∀ p ∈ before, (fun b => decide (b < W.heap.size)) p.block = true := fun p hp => by simpa using hlt p hp
  refine ⟨ds, gs, before, [], pa, pv, hW, hres _ _ _, hargs _ hold, hvars _ hold, World.keptBut_mono (fun p hp => ⟨hp, ?_⟩) (hb.frame (· ∈ before)), fun _ => ?_⟩
  · rw [hps, List.mem_append] at hp
    exact Or.inr hp
  · obtain ⟨_, _, _, _, _, hz, hn⟩ := hW
    refine ⟨hok, _, _, ([] ++ pa) ++ pv, ⟨[] ++ pa, pv, trodAll_append (hargs _ (fun _ _ => rfl)) (hres _ _ _), hvars _ (fun _ _ => rfl), rfl, ?_, ?_⟩, ?_⟩
    · intro b off hp
      have hin : MemPlace.cell b off ∈ before := by rw [hps]; simpa using hp
      rw [hb.frozen (hlt _ hin)]
      exact hz b off hin
    · intro ha
      have := hn ha
      rw [hps] at this
      simpa using this
    · intro p hp _
      rw [hps]
      simpa using hp
end

/-- what a law's argument brings: the value, its reading, and that each part is within the form's reach. -/
def Comes {H : Type} (enc : TypeId × Value → H) (W : World) (T : TypeId) (v : Value) (d : DataW H) (p : List MemPlace) : Prop :=
  DataW.Trod enc Tryd.prog W 0 (fun _ => true) true T v d p ∧ (∃ base, Value.okWide Tryd.prog W .any base T v) ∧ (DataW.weightsEach Tryd.prog [T] [d]).all (· ≤ reachBytes) = true

section
theorem okw_slice {P : Program} {W : World} {T e : TypeId} {v : Value} (ht : P.underlying T = some (.slice e)) (h : ∃ base, Value.okWide P W .any base T v) : ∃ a len cap, v = .slice a len cap := by
  obtain ⟨b, hv⟩ := h
  exact okWide_slice ht hv
theorem ok_first {P : Program} {fn : Func} {W : World} {base : Nat} {T : TypeId} {args : Array Value} {v : Value} (hp : fn.params = #[T]) (ha : args[0]? = some v)
    (h : ∀ (j : Nat) t v, fn.params[j]? = some t → args[j]? = some v → Value.okWide P W .any base t v) : ∃ base, Value.okWide P W .any base T v := ⟨base, h 0 T v (by rw [hp]; rfl) ha⟩
theorem ok_bool {P : Program} {W : World} {Tb : TypeId} (hb : P.underlying Tb = some .bool) : ∀ (j : Nat) (t : TypeId) (r : Value), #[Tb][j]? = some t → ((Value.bool true).resultList 1)[j]? = some r → Value.okWide P W .any 0 t r := by
  intro j t r hj hr'
  match j, hj, hr' with
  | 0, hj, hr' =>
    simp [Value.resultList] at hj hr'
    subst hj; subst hr'
    exact okWide_bool_mk hb true
  | j + 1, hj, _ => simp at hj
/-- FROM A WALK TO THE LIFTED FORM, for a law that lists variables. -/
theorem laid_core {C : Checked} {K : FuncId} {fn : Func} {T Tb : TypeId} {s : ChangeSpec} {lay : List (String × DataW Unit)} (own : ownKnob C.prog.godebug = none) (hlo : laidOutB C.prog = true) (hK : C.prog.funcs[K]? = some fn) (hp : fn.params = #[T]) (hr : fn.resultTypes = #[Tb]) (hb : C.prog.underlying Tb = some .bool)
    (hvars : s.vars = []) (hfn : ∀ (H : Type) (d : DataW H), s.fn H [d] = { results := [.lit (.bool true)], args := [d] })
    (hT : C.prog.readableRec T = true) (hTs : T < C.prog.types.size) (noInit : C.prog.inits.idxOf? K = none)
    (walk : ∀ (H : Type) (enc : TypeId × Value → H) (W : World) (v : Value) (d : DataW H) (p : List MemPlace), DataW.Trod enc C.prog W 0 (fun _ => true) true T v d p → (∃ base, Value.okWide C.prog W .any base T v) → (DataW.weightsEach C.prog [T] [d]).all (· ≤ reachBytes) = true → laidMetH C.prog lay W → Calls C.prog K #[v] W fun e W' => e = .returned (.bool true) ∧ Below W.heap.size W W')
    (os : Os) (started : os.Started) (H : Type) (enc : TypeId × Value → H)
    (witness : ∃ (w : World) (tape : Tape) (i : Input), w.os = os ∧ (w.forCall tape i).Shaped C.prog ∧ i.vars = [] ∧ Input.okWide C.prog (w.forCall tape i) .any w.heap.size K i ∧
      ((s.pre enc C.prog fn [] false (w.forCall tape i).memory i.args ∧ laidMetH C.prog lay (w.forCall tape i).memory) ∧ sizedMet enc C.prog fn (OpenSpec.ofChange s) false (w.forCall tape i).memory i.args) ∧ ({} : Assume).holds C.prog (lone (Frame.enter C.prog K i.args .normal) [] (w.forCall tape i))) :
    ReturnsInHanded {} C os K .any (fun w args => (s.pre enc C.prog fn [] false w args ∧ laidMetH C.prog lay w) ∧ sizedMet enc C.prog fn (OpenSpec.ofChange s) false w args) (s.post enc C.prog fn false true false false) := by
  refine returnsInHanded_of_change_and (X := fun w _ => laidMetH C.prog lay w) (fun _ _ _ hh h => h.of_heap hh) own started noInit hK witness ?_
  intro W base args ds gs before hval0 hW _ hsz0 hL _
  have hW' := hW
  obtain ⟨p, q, hA, hV, rfl, _, _⟩ := hW
  rw [hvars] at hV
  obtain ⟨rfl, rfl⟩ := trodVars_none hV
  rw [hp] at hA
  obtain ⟨v, d, ha, rfl, h0⟩ := trodAll_one hA
  subst ha
  have hsz : (DataW.weightsEach C.prog [T] [d]).all (· ≤ reachBytes) = true := by
    have h : (DataW.weightsEach C.prog (fn.params.toList ++ s.plain.varTypes C.prog) ([d] ++ [])).all (· ≤ reachBytes) = true := hsz0
    rw [hp] at h
    simpa [DataSpec.varTypes, ChangeSpec.plain, hvars] using h
  have hlt : ∀ x ∈ p, x.block < W.heap.size := fun x hx => hW'.lt x (by simpa using hx)
  refine (walk H enc W v d p h0 (ok_first hp rfl hval0) hsz hL).mono fun e W' ⟨he, hbl⟩ => ?_
  refine ⟨_, he, post_of_below (pa := p) (pv := []) hW' ?_ ?_ ?_ (by simp) hbl ?_⟩
  · intro b sp hd
    rw [hr, List.append_nil, hfn]
    exact trodAll_mk1 (shut_bool hb true)
  · intro sp hsp
    rw [hp, List.append_nil, hfn]
    exact trodAll_mk1 (WideElems.Trod_stays hlo hT hTs h0 (fun x hx => hbl.same (hlt x hx)) (fun x hx => hsp x (by simpa using hx)))
  · intro sp _
    rw [hvars, List.append_nil, hfn]
    rfl
  · rw [hr]
    exact ok_bool hb
end
end Go.Proofs.YtkcdkjpmbjcmdaaDoor

/-
  How arguments read: bytes; slices whose elements take several cells, element by element.
-/
namespace Go.Proofs.YtkcdkjpmbjcmdaaDoor
open Go.ChangeShapes Go.WideShapes Go.ChangeAt Go.RowKit Go.Deep

theorem cells_u8 : Tryd.prog.cellsOf 5 = 1 := by kernel_rfl
theorem wf_byte {n : Int} (h : (Lit.int .u8 n).wf = true) : ∃ x : UInt8, n = (x.toNat : Int) := by
  have h1 : IntKind.u8.min = 0 := rfl
  have h2 : IntKind.u8.max = 255 := rfl
  simp only [Lit.wf, Bool.and_eq_true, decide_eq_true_eq] at h
  refine ⟨UInt8.ofNat n.toNat, ?_⟩
  rw [UInt8.toNat_ofNat']
  omega
theorem wf_i64 {n : Int} (h : (Lit.int .i64 n).wf = true) : -9223372036854775808 ≤ n ∧ n ≤ 9223372036854775807 := by
  have h1 : IntKind.i64.min = -9223372036854775808 := rfl
  have h2 : IntKind.i64.max = 9223372036854775807 := rfl
  simp only [Lit.wf, Bool.and_eq_true, decide_eq_true_eq] at h
  omega
theorem wf_u32 {n : Int} (h : (Lit.int .u32 n).wf = true) : ∃ s : Nat, n = (s : Int) ∧ s < 4294967296 := by
  have h1 : IntKind.u32.min = 0 := rfl
  have h2 : IntKind.u32.max = 4294967295 := rfl
  simp only [Lit.wf, Bool.and_eq_true, decide_eq_true_eq] at h
  exact ⟨n.toNat, by omega, by omega⟩

/-- each part of a datum is within the form's reach. -/
def Fit {H : Type} (t : TypeId) (d : DataW H) : Prop := ∀ n ∈ DataW.weights Tryd.prog t d, n ≤ 140737488351232
theorem Fit.of {H : Type} {T : TypeId} {d : DataW H} (h : (DataW.weightsEach Tryd.prog [T] [d]).all (· ≤ reachBytes) = true) : Fit T d := by
  intro n hn
  have := List.all_eq_true.1 h n (DataW.weights_mem_each (j := 0) rfl rfl n hn)
  have h2 : n ≤ reachBytes := by simpa using this
  exact h2
theorem Fit.slice {H : Type} {t e : TypeId} {elems spare : List (DataW H)} (h : Fit t (.slice elems spare)) (ht : Tryd.prog.underlying t = some (.slice e)) :
    (elems.length + spare.length) * Tryd.prog.bytesOf e ≤ 140737488351232 ∧ ∀ x ∈ elems, Fit e x := by
  have hw : DataW.weights Tryd.prog t (.slice elems spare) = (elems.length + spare.length) * Tryd.prog.bytesOf e :: (DataW.weightsAll Tryd.prog e elems ++ DataW.weightsAll Tryd.prog e spare) := by
    simp [DataW.weights, ht]
  unfold Fit at h
  rw [hw] at h
  refine ⟨h _ (by simp), fun x hx n hn => h n ?_⟩
  have : ∀ l : List (DataW H), x ∈ l → n ∈ DataW.weightsAll Tryd.prog e l := by
    intro l
    induction l with
    | nil => intro h; cases h
    | cons a r ih =>
      intro h
      simp only [DataW.weightsAll, List.mem_append]
      rcases List.mem_cons.1 h with rfl | h
      · exact Or.inl hn
      · exact Or.inr (ih h)
  simp [this elems hx]
theorem Fit.struct {H : Type} {t : TypeId} {fs : Array Field} {ys : List (DataW H × List MemPlace)} (h : Fit t (.agg (ys.map (·.1)))) (ht : Tryd.prog.underlying t = some (.struct fs)) (j : Nat) (f : Field) (hf : fs[j]? = some f) (y : DataW H × List MemPlace) (hy : ys[j]? = some y) : Fit f.type y.1 := by
  intro n hn
  refine h n ?_
  have hw : DataW.weights Tryd.prog t (.agg (ys.map (·.1))) = DataW.weightsEach Tryd.prog (fs.toList.map (·.type)) (ys.map (·.1)) := by simp [DataW.weights, ht]
  rw [hw]
  refine DataW.weights_mem_each (j := j) (t := f.type) (d := y.1) ?_ ?_ n hn
  · rw [List.getElem?_map]
    simp [hf]
  · rw [List.getElem?_map, hy]; rfl
theorem bytes_u8 : Tryd.prog.bytesOf 5 = 1 := by kernel_rfl

section
variable {H : Type} {enc : TypeId × Value → H} {W : World}
theorem list_bytes {zs : List Int} (h : ∀ n ∈ zs, (Lit.int .u8 n).wf = true) : ∃ xs : List UInt8, zs = xs.map (fun x => (x.toNat : Int)) := by
  induction zs with
  | nil => exact ⟨[], rfl⟩
  | cons z zs ih =>
    obtain ⟨xs, rfl⟩ := ih (fun n hn => h n (List.mem_cons_of_mem _ hn))
    obtain ⟨x, hx⟩ := wf_byte (h z (List.mem_cons_self ..))
    exact ⟨x :: xs, by rw [hx]; rfl⟩
/-- bytes that came in. -/
theorem read_bytes {n : Nat} {cs : List Value} {x : DataW H × List MemPlace} (hfit : Fit 31 x.1) (h : DataW.trod enc Tryd.prog W 0 (fun _ => true) true n 31 cs = some x) :
    ∃ (xs : List UInt8) (A : Option Addr) (c : Nat), cs = [.slice A xs.length c] ∧ xs.length ≤ c ∧ c ≤ 140737488351232 ∧ RB W W.heap.size A xs := by
  rcases open_ints Tryd.underlying31 Tryd.underlying5 cells_u8 h with ⟨hcs, _⟩ | ⟨a, len, cap, zs, hcs, _, hl, _, hz, hxe, hc, hw⟩
  · exact ⟨[], none, 0, hcs, by simp, by simp, RB.nil⟩
  · obtain ⟨xs, rfl⟩ := list_bytes hw
    simp only [if_true, List.length_map] at hz
    have hm : cap ≤ 140737488351232 := by
      rw [hxe] at hfit
      have := (hfit.slice Tryd.underlying31).1
      rw [bytes_u8] at this
      simp [lits] at this
      omega
    refine ⟨xs.take len, some a, cap, ?_, ?_, hm, ?_, ?_⟩
    · rw [hcs, List.length_take, Nat.min_eq_left (by omega)]
    · rw [List.length_take]; omega
    · simp
    · intro hn
      rw [List.length_take] at hn
      have h0 := hc 0 (by simp; omega)
      have hlt : a.block < W.heap.size := by
        have := World.block_lt_of_cell? W _ h0
        rwa [block_of_add] at this
      refine ⟨a, rfl, hlt, ?_⟩
      intro j u hu
      have hj : j < (xs.take len).length := by
        rcases Nat.lt_or_ge j (xs.take len).length with h1 | h1
        · exact h1
        · rw [List.getElem?_eq_none (by simpa using h1)] at hu; cases hu
      rw [List.length_take] at hj
      have hjx : j < xs.length := by omega
      rw [hc j (by simpa using hjx)]
      rw [List.getElem?_map, List.getElem?_take_of_lt (by omega), List.getElem?_eq_getElem hjx] at hu
      simp only [Option.map_some, Option.some.injEq] at hu
      rw [← hu]
      simp [List.getD, List.getElem?_eq_getElem hjx]

/-- a slice whose elements take m cells each (m not 0), element by element. -/
theorem read_rows {T e : TypeId} {m : Nat} {v : Value} {d : DataW H} {p : List MemPlace} (ht : Tryd.prog.underlying T = some (.slice e)) (hm : Tryd.prog.cellsOf e = m) (hm0 : 0 < m) (h : Comes enc W T v d p) :
    ∃ (A : Option Addr) (len cap fuel : Nat), v = .slice A len cap ∧ len ≤ cap ∧ cap ≤ maxLen ∧ ∀ i, i < len → ∃ (b o : Nat) (cs : List Value) (x : DataW H × List MemPlace), A = some ⟨b, o, none⟩ ∧ b < W.heap.size ∧ cs.length = m ∧ (∀ j, j < m → W.cell? ⟨b, o + i * m + j, none⟩ = cs[j]?) ∧
      DataW.trod enc Tryd.prog W 0 (fun _ => true) true fuel e cs = some x ∧ Fit e x.1 := by
  obtain ⟨⟨fuel, hf⟩, hvb, hsz⟩ := h
  obtain ⟨a0, len, cap, rfl⟩ := okw_slice ht hvb
  rcases open_slice ht hf with ⟨hcs, _⟩ | ⟨a, len', cap', m', n, D, Pl, hcs, _, hl, hc, hmm, hxe, hi⟩
  · simp [Value.cells] at hcs
    obtain ⟨rfl, rfl, rfl⟩ := hcs
    exact ⟨none, 0, 0, 0, rfl, by omega, by simp, fun i hi => absurd hi (by omega)⟩
  · simp [Value.cells] at hcs
    obtain ⟨rfl, rfl, rfl⟩ := hcs
    simp only [if_true] at hmm
    refine ⟨some a, len, cap, n, rfl, hl, hc, fun i hlt => ?_⟩
    obtain ⟨cs', hcell, htr⟩ := hi i (by omega)
    obtain ⟨_, hlen, hat⟩ := World.cells?_some hcell
    rw [hm] at hlen
    have h0 := hat 0 (by omega)
    rw [List.getElem?_eq_getElem (by omega)] at h0
    obtain ⟨b, o, spot⟩ := a
    have hspot : spot = none := by
      obtain ⟨cs0, hcell0, _⟩ := hi 0 (by omega)
      obtain ⟨_, hlen0, hat0⟩ := World.cells?_some hcell0
      rw [hm] at hlen0
      have h00 := hat0 0 (by omega)
      rw [List.getElem?_eq_getElem (by omega)] at h00
      have := World.cell?_spot h00
      simpa [Addr.add] using this
    subst hspot
    have hb := World.block_lt_of_cell? W _ h0
    rw [block_of_add, block_of_add] at hb
    refine ⟨b, o, cs', _, rfl, hb, hlen, fun j hj => ?_, htr, ?_⟩
    rotate_left
    · simp only [Prod.mk.injEq] at hxe
      have hft := Fit.of hsz
      rw [hxe.1] at hft
      exact (hft.slice ht).2 _ (List.mem_map.2 ⟨i, List.mem_range.2 hlt, rfl⟩)
    have := hat j (by omega)
    rw [add_add, hm] at this
    rw [← this]
    refine congrArg W.cell? ?_
    unfold Addr.add
    by_cases h1 : i * m + j = 0
    · rw [if_pos h1, Nat.add_assoc, h1]; simp
    · rw [if_neg h1, Nat.add_assoc]
end

end Go.Proofs.YtkcdkjpmbjcmdaaDoor

/-
  Copies of packets; how much a packet weighs.
-/
namespace Go.Proofs.YtkcdkjpmbjcmdaaDoor
open Go.RowKit

theorem wpList_append_rows {P : Program} {w0 w : World} {ops : Array Oper} {rest : List Oper} {o : Oper} {a : Act} {Q : Exit → Act → World → Prop} (B : Nat) (hb : Below B w0 w) (hgd : o.guard = none) (s x : Operand) (t : TypeId)
    (ho : o.op = .call { callee := .builtin .append, args := #[s, x], argTypes := #[t, t] })
    (base : Nat) (e : TypeId) (z : Value) (size bytes : Nat) (ht : P.underlying t = some (.slice e)) (hi : (P.info? e).map (fun i => (i.zero, i.size, i.bytes)) = some (some z, size, bytes)) (hzs : z.cells.size = size) (hsz : 0 < size)
    (v : Value) (n : Nat) (xs : List Value) (hs : a.eval s = v) (hown : w.ownsRow base e size v n xs) (A : Option Addr) (m c : Nat) (ys : List Value) (hx : a.eval x = .slice A m c) (hr : Reads w w.heap.size size A m ys) (h1 : ∀ u ∈ ys, u.oneCell' = true)
    (hn : n + m ≤ maxLen) (hby : (n + m) * bytes ≤ 140737488355328) (hbase : base ≤ w.heap.size) (hB : B ≤ base)
    (h : ∀ A' c' w', w'.ownsRow base e size (.slice A' (n + m) c') (n + m) (xs ++ ys) → Below B w0 w' → wpList P ops Q rest (a.put o.dst (.slice A' (n + m) c')) w') :
    wpList P ops Q (o :: rest) a w := by
  refine wpList_plain hgd fun K hK => ?_
  obtain ⟨A', c', w', hrun, h2, h3⟩ := run_append_read (P := P) w base t o.type e z size bytes ht hi hzs hsz v n xs hown w.heap.size A m c ys hr h1 hn hby hbase
  unfold Oper.wp execOp
  simp only [ho, resolve, invoke, builtin, Sem.run_bind, Sem.run_pure, Result.andThen_ok, List.map_toArray, List.map_cons, List.map_nil, hs, hx, hrun]
  refine hK _ _ (h A' c' w' h2 (hb.grown h3 (by omega) ?_))
  intro k hk
  exact Nat.le_trans hB (hown.lt k hk).1

set_option maxHeartbeats 800000 in
theorem copyInts (l : List Int) (A : Option Addr) (c : Nat) (w : World) (hr : Reads w w.heap.size 1 A l.length (l.map iv)) (hn : l.length ≤ 1000000) :
    Calls Tryd.prog 45 #[.slice A l.length c] w fun e w' => ∃ v, e = .returned v ∧ (w'.ownsRow w.heap.size 3 1 v l.length (l.map iv) ∧ Below w.heap.size w w') := by
  go_enter Tryd.func45, Tryd.ntmps45
  go_wp2
  go_loopw [3, 4] (fun v i wr => ∃ k : Nat, k ≤ l.length ∧ i = .int .i64 k ∧ wr.ownsRow w.heap.size 3 1 v k ((l.take k).map iv) ∧ Below w.heap.size w wr)
    (fun _ i _ => l.length - (intOf i).toNat)
  case atStart => exact ⟨0, Nat.zero_le _, rfl, World.ownsRow_nil _ _ _ _, Below.refl _ _⟩
  case round =>
    obtain ⟨k, hk, rfl, hown, hnx⟩ := hrel
    by_cases hlt : k < l.length
    · obtain ⟨b, o, x, rfl, hb, hx, hcell⟩ := Reads.int (hr.below hnx) rfl hlt
      have HS : Hid ((l.take (k+1)).map iv = (l.take k).map iv ++ [.int .i64 x]) := by rw [take_snoc? l k x hx]; simp [Hid]
      clear hx
      go_wp2_with (at_builtin; refine wpList_append1 w.heap.size hnx rfl _ _ 26 rfl w.heap.size 3 (.int .i64 0) 8 Tryd.underlying26 info_int rfl _ _ _ (by exact rfl) hown (.int .i64 x) (by exact rfl) rfl (by omega) (by unfold maxLen; omega) hnx.size (Nat.le_refl _) ?_; intro A' c' w' hown' hb')
      go_roundw
      case rel => exact ⟨k + 1, by omega, by go_num, by rw [HS.out]; exact hown', hb'⟩
      case measure => simp [intOf]; omega
    · obtain rfl : k = l.length := by omega
      go_wp2
      go_ret
      exact ⟨_, rfl, by simpa using hown, hnx⟩
set_option maxHeartbeats 800000 in
theorem copyStrs (l : List ByteArray) (A : Option Addr) (c : Nat) (w : World) (hr : Reads w w.heap.size 1 A l.length (l.map sv)) (hn : l.length ≤ 1000000) :
    Calls Tryd.prog 47 #[.slice A l.length c] w fun e w' => ∃ v, e = .returned v ∧ (w'.ownsRow w.heap.size 9 1 v l.length (l.map sv) ∧ Below w.heap.size w w') := by
  go_enter Tryd.func47, Tryd.ntmps47
  go_wp2
  go_loopw [3, 4] (fun v i wr => ∃ k : Nat, k ≤ l.length ∧ i = .int .i64 k ∧ wr.ownsRow w.heap.size 9 1 v k ((l.take k).map sv) ∧ Below w.heap.size w wr)
    (fun _ i _ => l.length - (intOf i).toNat)
  case atStart => exact ⟨0, Nat.zero_le _, rfl, World.ownsRow_nil _ _ _ _, Below.refl _ _⟩
  case round =>
    obtain ⟨k, hk, rfl, hown, hnx⟩ := hrel
    by_cases hlt : k < l.length
    · obtain ⟨b, o, x, rfl, hb, hx, hcell⟩ := Reads.str (hr.below hnx) rfl hlt
      have HS : Hid ((l.take (k+1)).map sv = (l.take k).map sv ++ [.string x]) := by rw [take_snoc? l k x hx]; simp [Hid]
      clear hx
      go_wp2_with (at_builtin; refine wpList_append1 w.heap.size hnx rfl _ _ 28 rfl w.heap.size 9 (.string ⟨#[]⟩) 16 Tryd.underlying28 info_string rfl _ _ _ (by exact rfl) hown (.string x) (by exact rfl) rfl (by omega) (by unfold maxLen; omega) hnx.size (Nat.le_refl _) ?_; intro A' c' w' hown' hb')
      go_roundw
      case rel => exact ⟨k + 1, by omega, by go_num, by rw [HS.out]; exact hown', hb'⟩
      case measure => simp [intOf]; omega
    · obtain rfl : k = l.length := by omega
      go_wp2
      go_ret
      exact ⟨_, rfl, by simpa using hown, hnx⟩
set_option maxHeartbeats 800000 in
theorem copyWishes (l : List (ByteArray × Int)) (A : Option Addr) (c : Nat) (w : World) (hr : Reads w w.heap.size 2 A l.length (wv l)) (hn : l.length ≤ 1000000) :
    Calls Tryd.prog 46 #[.slice A l.length c] w fun e w' => ∃ v, e = .returned v ∧ (w'.ownsRow w.heap.size 95 2 v l.length (wv l) ∧ Below w.heap.size w w') := by
  go_enter Tryd.func46, Tryd.ntmps46
  go_wp2
  go_loopw [3, 4] (fun v i wr => ∃ k : Nat, k ≤ l.length ∧ i = .int .i64 k ∧ wr.ownsRow w.heap.size 95 2 v k (wv (l.take k)) ∧ Below w.heap.size w wr)
    (fun _ i _ => l.length - (intOf i).toNat)
  case atStart => exact ⟨0, Nat.zero_le _, rfl, World.ownsRow_nil _ _ _ _, Below.refl _ _⟩
  case round =>
    obtain ⟨k, hk, rfl, hown, hnx⟩ := hrel
    by_cases hlt : k < l.length
    · obtain ⟨b, o, x, rfl, hb, hx, hc0, hc1⟩ := Reads.wish (hr.below hnx) rfl hlt
      have HS : Hid (wv (l.take (k+1)) = wv (l.take k) ++ wv [x]) := by rw [take_snoc? l k x hx, wv_append]; simp [Hid]
      clear hx
      go_wp2_with (at_builtin; refine wpList_append_rows w.heap.size (hnx.alloc hnx.size _) rfl _ _ 27 rfl w.heap.size 95 (.agg #[.string ⟨#[]⟩, .int .i64 0]) 2 24 Tryd.underlying27 info_wish rfl (by decide) _ _ _ (by exact rfl) (hown.alloc _) _ 1 1 (wv [x]) (by exact rfl) (Reads.lit wr 95 (wv [x]) (0, 0) 2 1 rfl) (one_wv _) (by unfold maxLen; omega) (by omega) (Nat.le_trans hnx.size (balloc _ _).size) (Nat.le_refl _) ?_; intro A' c' w' hown' hb')
      go_roundw
      case rel => exact ⟨k + 1, by omega, by go_num, by rw [HS.out]; exact hown', hb'⟩
      case measure => simp [intOf]; omega
    · obtain rfl : k = l.length := by omega
      go_wp2
      go_ret
      exact ⟨_, rfl, by simpa using hown, hnx⟩
/-- a packet's three lists, rows of the call's own. -/
def Own3 (w : World) (base : Nat) (m : Mq) (vc vw vf : Value) : Prop :=
  w.ownsRow base 3 1 vc m.codes.length (m.codes.map iv) ∧ w.ownsRow base 95 2 vw m.wishes.length (wv m.wishes) ∧ w.ownsRow base 9 1 vf m.filters.length (m.filters.map sv)
/-- no list is longer than n. -/
def Short (m : Mq) (n : Nat) : Prop := m.codes.length ≤ n ∧ m.wishes.length ≤ n ∧ m.filters.length ≤ n
theorem Own3.lists {w : World} {b : Nat} {m : Mq} {vc vw vf : Value} (h : Own3 w b m vc vw vf) {n : Nat} (hl : Short m n) (hn : n ≤ 140737488351232) : MqL w w.heap.size m vc vw vf := by
  obtain ⟨h1, h2, h3⟩ := h
  obtain ⟨l1, l2, l3⟩ := hl
  obtain ⟨A1, c1, rfl, a1, _⟩ := own_shape h1
  obtain ⟨A2, c2, rfl, a2, _⟩ := own_shape h2
  obtain ⟨A3, c3, rfl, a3, _⟩ := own_shape h3
  exact ⟨A1, c1, A2, c2, A3, c3, rfl, rfl, rfl, a1, a2, a3, by omega, by omega, by omega, Reads.of_own h1, Reads.of_own h2, Reads.of_own h3⟩
theorem Own3.below {w w' : World} {b : Nat} {m : Mq} {vc vw vf : Value} (h : Own3 w b m vc vw vf) (hb : Below w.heap.size w w') : Own3 w' b m vc vw vf := ⟨own_below h.1 hb, own_below h.2.1 hb, own_below h.2.2 hb⟩
/-- a cell of a block of one's own is written; nothing else turns. -/
theorem Has.storeG {P : Program} {ops : Array Oper} {rest : List Oper} {o : Oper} {a : Act} {w W : World} {B : Nat} {bs : List (Nat × List Value)} {Q : Exit → Act → World → Prop} {n : Nat} {l : List (Nat × Value)} (H : Has a n l) (hO : Own W B bs w) (i : Nat) {g j : Nat} {L : List Value} (hi : bs[i]? = some (g, L))
    (hw : Region.wanted o (yielded ops a.tmps) = true) {T : Nat} {x y : Operand} {v : Value} (ho : o.op = .store T x y) (hd : o.dst = none) (hx : evL l x = some (.pointer (some ⟨g, j, none⟩))) (hy : evL l y = some v) (hj : Nat.blt j L.length = true)
    (hst : ∀ u, w.cell? ⟨g, j, none⟩ = some u → w.frozen? ⟨g, j, none⟩ = false → (Instr.storeAt T (.pointer (some ⟨g, j, none⟩)) v).run P w = .ok () (w.setCell ⟨g, j, none⟩ v))
    (h : ∀ a' w', Has a' n l → Own W B (bs.set i (g, L.set j v)) w' → w.grownBy w' (some g) → wpList P ops Q rest a' w') : wpList P ops Q (o :: rest) a w := by
  have hj' : j < L.length := by simpa [Nat.blt_eq] using hj
  have hC := hO.get i hi
  obtain ⟨c1, c2⟩ := hC j _ (List.getElem?_eq_getElem hj')
  refine H.store hw ho hd hx hy (hst _ c1 c2) (fun a' H' => h a' _ H' ?_ (grown_setCell w g j v))
  exact hO.store i hi (grown_setCell w g j v) (size_setCell' _ _ _) (hC.set j v hj')
set_option maxRecDepth 100000 in
set_option maxHeartbeats 1600000 in
theorem refCopyMq (m : Mq) (vc vw vf : Value) (w : World) (hL : MqL w w.heap.size m vc vw vf) (hS : Short m 1000000) :
    Calls Tryd.prog 23 #[.agg (mqCells m vc vw vf).toArray] w fun e w' => ∃ v, e = .returned v ∧ (∃ vc' vw' vf', v = .agg (mqCells m vc' vw' vf').toArray ∧ Own3 w' w.heap.size m vc' vw' vf' ∧ Below w.heap.size w w') := by
  obtain ⟨A1, c1, A2, c2, A3, c3, rfl, rfl, rfl, l1, l2, l3, k1', k2', k3', r1, r2, r3⟩ := id hL
  obtain ⟨s1, s2, s3⟩ := hS
  go_enter Tryd.func23, Tryd.ntmps23
  refine Has.start 18 [(0, .agg (mqCells m (.slice A1 m.codes.length c1) (.slice A2 m.wishes.length c2) (.slice A3 m.filters.length c3)).toArray)] rfl rfl ⟨rfl, trivial⟩ ?_
  intro a0 H0
  have O0 := Own.start w
  refine rl ?_
  refine H0.bx O0 0 fun a1 w1 O1 H1 => ?_
  refine H1.al O1 0 zero_mq fun a2 w2 O2 H2 => nt ?_
  refine rl ?_
  refine H2.lm O2 1 0 fun a3 H3 => ?_
  refine H3.al O2 0 zero_mq fun a4 w3 O3 H4 => ?_
  refine H4.st O3 0 0 (hi := size_mq) fun a5 w4 O4 H5 => nt ?_
  obtain ⟨b0, hb0⟩ : ∃ b0, b0 = w4.heap.size := ⟨_, rfl⟩
  have q2 := O4.lt 1 rfl
  have q3 := O4.lt 0 rfl
  rw [← hb0] at q2 q3
  have hle : b0 ≤ w4.heap.size := Nat.le_of_eq hb0
  have hwb : w.heap.size ≤ b0 := by rw [hb0]; exact O4.le
  refine H5.rg 1 fun a6 H6 => ?_
  refine H6.ld 0 (O4.l6 2 15) fun a7 H7 => ?_
  refine H7.cl (copyInts m.codes A1 c1 _ (r1.next O4.bel) (by omega)) ?_
  rintro a8 v w5 ⟨oc, hb⟩ H8
  have O5 := O4.call hb
  have oc := own_base oc hle
  have hle := Nat.le_trans hle hb.size
  clear hb
  obtain ⟨Ac, cc, rfl, _, _⟩ := own_shape oc
  refine H8.ms 1 fun a9 H9 => ?_
  refine H9.storeG O5 0 rfl gz rfl rfl rfl rfl rfl (fun u h f => store1_26 _ _ _ _ _ u _ h f) ?_
  intro a10 w6 H10 O6 hg
  have oc := oc.kept hg (Or.inr (Ne.symm (own_ne oc (Or.inl q3))))
  have hle := Nat.le_trans hle hg.size
  clear hg
  refine nt ?_
  refine H10.rg 1 fun a11 H11 => ?_
  refine H11.ld 0 (O6.l7 2 22) fun a12 H12 => ?_
  refine H12.cl (copyWishes m.wishes A2 c2 _ (r2.next O6.bel) (by omega)) ?_
  rintro a13 v w7 ⟨ow, hb⟩ H13
  have O7 := O6.call hb
  have oc := own_below oc hb
  have ow := own_base ow hle
  have hle := Nat.le_trans hle hb.size
  clear hb
  obtain ⟨Aw, cw, rfl, _, _⟩ := own_shape ow
  refine H13.ms 1 fun a14 H14 => ?_
  refine H14.storeG O7 0 rfl gz rfl rfl rfl rfl rfl (fun u h f => store1_27 _ _ _ _ _ u _ h f) ?_
  intro a15 w8 H15 O8 hg
  have oc := oc.kept hg (Or.inr (Ne.symm (own_ne oc (Or.inl q3))))
  have ow := ow.kept hg (Or.inr (Ne.symm (own_ne ow (Or.inl q3))))
  have hle := Nat.le_trans hle hg.size
  clear hg
  refine nt ?_
  refine H15.rg 1 fun a16 H16 => ?_
  refine H16.ld 0 (O8.l8 2 23) fun a17 H17 => ?_
  refine H17.cl (copyStrs m.filters A3 c3 _ (r3.next O8.bel) (by omega)) ?_
  rintro a18 v w9 ⟨of, hb⟩ H18
  have O9 := O8.call hb
  have oc := own_below oc hb
  have ow := own_below ow hb
  have of := own_base of hle
  have hle := Nat.le_trans hle hb.size
  clear hb
  obtain ⟨Af, cf, rfl, _, _⟩ := own_shape of
  refine H18.ms 1 fun a19 H19 => ?_
  refine H19.storeG O9 0 rfl gz rfl rfl rfl rfl rfl (fun u h f => store1_28 _ _ _ _ _ u _ h f) ?_
  intro a20 w10 H20 O10 hg
  have oc := oc.kept hg (Or.inr (Ne.symm (own_ne oc (Or.inl q3))))
  have ow := ow.kept hg (Or.inr (Ne.symm (own_ne ow (Or.inl q3))))
  have of := of.kept hg (Or.inr (Ne.symm (own_ne of (Or.inl q3))))
  have hle := Nat.le_trans hle hg.size
  clear hg
  refine nt ?_
  refine rl ?_
  refine H20.lm O10 0 0 fun a21 H21 => ?_
  refine H21.storeS rfl rfl rfl rfl rfl (O10.get 1 rfl) size_mq rfl rfl rfl ?_
  intro a22 w11 H22 hg hs hC
  have O11 := O10.store 1 rfl hg hs hC
  have hg := hg
  clear hg hs hC
  have oc := oc.kept hg (Or.inr (Ne.symm (own_ne oc (Or.inl q2))))
  have ow := ow.kept hg (Or.inr (Ne.symm (own_ne ow (Or.inl q2))))
  have of := of.kept hg (Or.inr (Ne.symm (own_ne of (Or.inl q2))))
  refine nt ?_
  refine wp_ret ?_
  repeat (first | (with_reducible refine block_ret ?_) | (with_reducible refine then_ret ?_))
  refine bodyPost_ret (results_cells Tryd.results23 _ _ (H22.at_ 2 _ rfl) (O11.get 1 rfl) Tryd.underlying30 rfl 24 size_mq rfl) H22.df ?_
  exact ⟨_, rfl, _, _, _, rfl, ⟨own_base oc hwb, own_base ow hwb, own_base of hwb⟩, O11.bel⟩

end Go.Proofs.YtkcdkjpmbjcmdaaDoor

/-
  How much a packet weighs.
-/
namespace Go.Proofs.YtkcdkjpmbjcmdaaDoor
open Go.RowKit

def wgt : List Nat → Nat → Nat
  | [], n => n
  | x :: xs, n => if n < 1048576 then wgt xs (n + x) else n
theorem wgt_ge : ∀ (l : List Nat) (n : Nat), n ≤ wgt l n
  | [], _ => Nat.le_refl _
  | x :: xs, n => by
    unfold wgt
    split
    · exact Nat.le_trans (Nat.le_add_right n x) (wgt_ge xs (n + x))
    · exact Nat.le_refl _
theorem wgt_le (M : Nat) (hM : 1048576 ≤ M) (X : Nat) : ∀ (l : List Nat) (n : Nat), (∀ x ∈ l, x ≤ X) → n ≤ M + X → wgt l n ≤ M + X
  | [], _, _, hn => hn
  | x :: xs, n, h, hn => by
    unfold wgt
    have hx := h x List.mem_cons_self
    split
    · exact wgt_le M hM X xs (n + x) (fun y hy => h y (List.mem_cons_of_mem _ hy)) (by omega)
    · exact hn
theorem add_wrap (a b : Nat) (h : a + b < 9223372036854775808) : IntKind.i64.wrap ((a : Int) + (b : Int)) = ((a + b : Nat) : Int) := by
  rw [IntWalk.i64_in _ (by omega)]; omega
set_option maxRecDepth 100000 in
set_option maxHeartbeats 800000 in
theorem weighWishes (l : List (ByteArray × Int)) (A : Option Addr) (c : Nat) (hn : l.length ≤ 140737488351232) (hf : ∀ s ∈ l, Fits s.1) (w : World) (hr : Reads w w.heap.size 2 A l.length (wv l)) :
    Calls Tryd.prog 70 #[.slice A l.length c] w fun e w' => e = .returned (.int .i64 ((wgt (l.map (·.1.size)) l.length : Nat) : Int)) ∧ w = w' := by
  have HX : Hid (wgt ((l.drop 0).map (·.1.size)) l.length = wgt (l.map (·.1.size)) l.length) := rfl
  generalize wgt (l.map (·.1.size)) l.length = X at *
  go_enter Tryd.func70, Tryd.ntmps70
  go_wp2
  go_loopw [3, 4] (fun nv i wr => ∃ k n : Nat, k ≤ l.length ∧ nv = .int .i64 (n : Int) ∧ i = .int .i64 (k : Int) ∧ w = wr ∧ n ≤ 140737489399808 ∧ Hid (wgt ((l.drop k).map (·.1.size)) n = X)) (fun _ i _ => l.length - (intOf i).toNat)
  case atStart => exact ⟨0, l.length, Nat.zero_le _, rfl, rfl, rfl, by omega, HX⟩
  case round =>
    obtain ⟨k, n, hk, rfl, rfl, rfl, hnB, hf2⟩ := hrel
    by_cases hlt : k < l.length
    · obtain ⟨b, o, x, rfl, hb, hx, hc0, hc1⟩ := Reads.wish hr rfl hlt
      have hs := hf x (List.mem_of_getElem? hx)
      have hd := drop_of hx
      have hf3 := hf2.out
      rw [hd, List.map_cons, wgt] at hf3
      by_cases hn2 : n < 1048576
      · rw [if_pos hn2] at hf3
        have HP : Hid (wgt ((l.drop (k + 1)).map (·.1.size)) (n + x.1.size) = X) := hf3
        have hw := add_wrap n x.1.size (by omega)
        have hn3 : (n : Int) < 1048576 := by omega
        clear hn2
        clear hx hd hf3 hf2 hc1 hf
        go_wp2
        go_roundw
        case rel => exact ⟨k + 1, n + x.1.size, by omega, by simp, by go_num, by first | trivial | rfl, by omega, HP⟩
        case measure => simp [intOf]; omega
      · rw [if_neg hn2] at hf3
        have HP : Hid (n = X) := hf3
        have hn3 : ¬ (n : Int) < 1048576 := by omega
        clear hn2
        clear hx hd hf3 hf2 hc1 hf hc0
        go_wp2
        go_ret
        exact ⟨by rw [← HP.out]; rfl, rfl⟩
    · have HP : Hid (n = X) := by
        have := hf2.out
        rw [List.drop_eq_nil_of_le (by omega)] at this
        exact this
      clear hf2 hf
      go_wp2
      go_ret
      exact ⟨by rw [← HP.out]; rfl, rfl⟩
set_option maxRecDepth 100000 in
set_option maxHeartbeats 800000 in
theorem weighStrs (l : List ByteArray) (A : Option Addr) (c : Nat) (hn : l.length ≤ 140737488351232) (hf : ∀ s ∈ l, Fits s) (w : World) (hr : Reads w w.heap.size 1 A l.length (l.map sv)) :
    Calls Tryd.prog 71 #[.slice A l.length c] w fun e w' => e = .returned (.int .i64 ((wgt (l.map (·.size)) l.length : Nat) : Int)) ∧ w = w' := by
  have HX : Hid (wgt ((l.drop 0).map (·.size)) l.length = wgt (l.map (·.size)) l.length) := rfl
  generalize wgt (l.map (·.size)) l.length = X at *
  go_enter Tryd.func71, Tryd.ntmps71
  go_wp2
  go_loopw [3, 4] (fun nv i wr => ∃ k n : Nat, k ≤ l.length ∧ nv = .int .i64 (n : Int) ∧ i = .int .i64 (k : Int) ∧ w = wr ∧ n ≤ 140737489399808 ∧ Hid (wgt ((l.drop k).map (·.size)) n = X)) (fun _ i _ => l.length - (intOf i).toNat)
  case atStart => exact ⟨0, l.length, Nat.zero_le _, rfl, rfl, rfl, by omega, HX⟩
  case round =>
    obtain ⟨k, n, hk, rfl, rfl, rfl, hnB, hf2⟩ := hrel
    by_cases hlt : k < l.length
    · obtain ⟨b, o, x, rfl, hb, hx, hc0⟩ := Reads.str hr rfl hlt
      have hs := hf x (List.mem_of_getElem? hx)
      have hd := drop_of hx
      have hf3 := hf2.out
      rw [hd, List.map_cons, wgt] at hf3
      by_cases hn2 : n < 1048576
      · rw [if_pos hn2] at hf3
        have HP : Hid (wgt ((l.drop (k + 1)).map (·.size)) (n + x.size) = X) := hf3
        have hw := add_wrap n x.size (by omega)
        have hn3 : (n : Int) < 1048576 := by omega
        clear hn2
        clear hx hd hf3 hf2 hf
        go_wp2
        go_roundw
        case rel => exact ⟨k + 1, n + x.size, by omega, by simp, by go_num, by first | trivial | rfl, by omega, HP⟩
        case measure => simp [intOf]; omega
      · rw [if_neg hn2] at hf3
        have HP : Hid (n = X) := hf3
        have hn3 : ¬ (n : Int) < 1048576 := by omega
        clear hn2
        clear hx hd hf3 hf2 hf hc0
        go_wp2
        go_ret
        exact ⟨by rw [← HP.out]; rfl, rfl⟩
    · have HP : Hid (n = X) := by
        have := hf2.out
        rw [List.drop_eq_nil_of_le (by omega)] at this
        exact this
      clear hf2 hf
      go_wp2
      go_ret
      exact ⟨by rw [← HP.out]; rfl, rfl⟩
theorem add_n (a b : Nat) (h : a + b < 9223372036854775808) (x y : Operand) (w : World) : (do eqGuard .add 3 x y (.int .i64 (a : Int)) (.int .i64 (b : Int)); binOp .add 3 (.int .i64 (a : Int)) (.int .i64 (b : Int)) : Sem Value).run Tryd.prog w = .ok (.int .i64 ((a + b : Nat) : Int)) w := by
  simp [go_sem]
  rw [add_wrap _ _ h]
  rfl
def wishW (m : Mq) : Nat := wgt (m.wishes.map (·.1.size)) m.wishes.length
def filtW (m : Mq) : Nat := wgt (m.filters.map (·.size)) m.filters.length
def mqW (m : Mq) : Nat := m.client.size + m.wt.size + m.wp.size + m.user.size + m.pass.size + m.codes.length + m.topic.size + m.payload.size + wishW m + filtW m
set_option maxRecDepth 100000 in
set_option maxHeartbeats 1600000 in
theorem weighMq (m : Mq) (vc vw vf : Value) (w : World) (hL : MqL w w.heap.size m vc vw vf) (hF : MqFit m) :
    Calls Tryd.prog 43 #[.agg (mqCells m vc vw vf).toArray] w fun e w' => e = .returned (.int .i64 ((mqW m : Nat) : Int)) ∧ Below w.heap.size w w' := by
  obtain ⟨A1, c1, A2, c2, A3, c3, rfl, rfl, rfl, l1, l2, l3, k1', k2', k3', r1, r2, r3⟩ := id hL
  have f1 := hF.client
  have f2 := hF.wt
  have f3 := hF.wp
  have f4 := hF.user
  have f5 := hF.pass
  have f6 := hF.topic
  have f7 := hF.payload
  unfold Fits at f1 f2 f3 f4 f5 f6 f7
  have g1 : wishW m ≤ 1000000000000000 := Nat.le_trans (wgt_le 140737488351232 (by decide) 140737488351232 _ _ (by intro x hx; obtain ⟨s, hs, rfl⟩ := List.mem_map.1 hx; exact hF.wishes s hs) (by omega)) (by decide)
  have g2 : filtW m ≤ 1000000000000000 := Nat.le_trans (wgt_le 140737488351232 (by decide) 140737488351232 _ _ (by intro x hx; obtain ⟨s, hs, rfl⟩ := List.mem_map.1 hx; exact hF.filters s hs) (by omega)) (by decide)
  go_enter Tryd.func43, Tryd.ntmps43
  refine Has.start 44 [(0, .agg (mqCells m (.slice A1 m.codes.length c1) (.slice A2 m.wishes.length c2) (.slice A3 m.filters.length c3)).toArray)] rfl rfl ⟨rfl, trivial⟩ ?_
  intro a0 H0
  have O0 := Own.start w
  refine rl ?_
  refine H0.bx O0 1 fun a2 w1 O1 H2 => nt ?_
  have HB1 := Base.of O1
  obtain ⟨b0, hb0⟩ : ∃ b0, b0 = w1.heap.size := ⟨_, rfl⟩
  rw [← hb0] at HB1
  have hb0' := hb0
  clear hb0
  have H3 := H2.keep (l' := [(1, .pointer (some ⟨w.heap.size, 0, none⟩))]) ⟨rfl, trivial⟩
  refine H3.dr HB1 [1] rfl [ec 0 3 (.pointer (some ⟨w.heap.size, 1, none⟩)), ec 1 4 (.string m.client), ec 2 5 (.int .i64 ((m.client.size : Nat) : Int)), ec 3 6 (.pointer (some ⟨w.heap.size, 4, none⟩)), ec 4 7 (.pointer (some ⟨w.heap.size, 5, none⟩)), ec 5 8 (.string m.wt), ec 6 9 (.int .i64 ((m.wt.size : Nat) : Int)), ec 7 10 (.int .i64 ((m.client.size + m.wt.size : Nat) : Int)), ec 8 11 (.pointer (some ⟨w.heap.size, 4, none⟩)), ec 9 12 (.pointer (some ⟨w.heap.size, 6, none⟩)), ec 10 13 (.string m.wp), ec 11 14 (.int .i64 ((m.wp.size : Nat) : Int)), ec 12 15 (.int .i64 ((m.client.size + m.wt.size + m.wp.size : Nat) : Int)), ec 13 16 (.pointer (some ⟨w.heap.size, 9, none⟩)), ec 14 17 (.string m.user), ec 15 18 (.int .i64 ((m.user.size : Nat) : Int)), ec 16 19 (.int .i64 ((m.client.size + m.wt.size + m.wp.size + m.user.size : Nat) : Int)), ec 17 20 (.pointer (some ⟨w.heap.size, 11, none⟩)), ec 18 21 (.string m.pass), ec 19 22 (.int .i64 ((m.pass.size : Nat) : Int)), ec 20 23 (.int .i64 ((m.client.size + m.wt.size + m.wp.size + m.user.size + m.pass.size : Nat) : Int)), ec 21 24 (.pointer (some ⟨w.heap.size, 15, none⟩)), ec 22 25 (.slice A1 m.codes.length c1), ec 23 26 (.int .i64 ((m.codes.length : Nat) : Int)), ec 24 27 (.int .i64 ((m.client.size + m.wt.size + m.wp.size + m.user.size + m.pass.size + m.codes.length : Nat) : Int)), ec 25 28 (.pointer (some ⟨w.heap.size, 19, none⟩)), ec 26 29 (.string m.topic), ec 27 30 (.int .i64 ((m.topic.size : Nat) : Int)), ec 28 31 (.int .i64 ((m.client.size + m.wt.size + m.wp.size + m.user.size + m.pass.size + m.codes.length + m.topic.size : Nat) : Int)), ec 29 32 (.pointer (some ⟨w.heap.size, 21, none⟩)), ec 30 33 (.string m.payload), ec 31 34 (.int .i64 ((m.payload.size : Nat) : Int)), ec 32 35 (.int .i64 ((m.client.size + m.wt.size + m.wp.size + m.user.size + m.pass.size + m.codes.length + m.topic.size + m.payload.size : Nat) : Int)), ec 33 36 (.pointer (some ⟨w.heap.size, 22, none⟩)), ec 34 37 (.slice A2 m.wishes.length c2), ec 35 38 (.int .i64 ((wishW m : Nat) : Int)), ec 36 39 (.int .i64 ((m.client.size + m.wt.size + m.wp.size + m.user.size + m.pass.size + m.codes.length + m.topic.size + m.payload.size + wishW m : Nat) : Int)), ec 37 40 (.pointer (some ⟨w.heap.size, 23, none⟩)), ec 38 41 (.slice A3 m.filters.length c3), ec 39 42 (.int .i64 ((filtW m : Nat) : Int)), ec 40 43 (.int .i64 ((m.client.size + m.wt.size + m.wp.size + m.user.size + m.pass.size + m.codes.length + m.topic.size + m.payload.size + wishW m + filtW m : Nat) : Int)), ec 41 2 (.int .i64 ((m.client.size + m.wt.size + m.wp.size + m.user.size + m.pass.size + m.codes.length + m.topic.size + m.payload.size + wishW m + filtW m : Nat) : Int))] rfl ⟨jm, (jl fun _ h => h.own.ls 0 1), js Tryd.underlying9, jm, jm, (jl fun _ h => h.own.ls 0 5), js Tryd.underlying9, (jB rfl rfl rfl rfl rfl rfl fun _ => (add_n _ _ (by omega) _ _ _)), jm, jm, (jl fun _ h => h.own.ls 0 6), js Tryd.underlying9, (jB rfl rfl rfl rfl rfl rfl fun _ => (add_n _ _ (by omega) _ _ _)), jm, (jl fun _ h => h.own.ls 0 9), js Tryd.underlying9, (jB rfl rfl rfl rfl rfl rfl fun _ => (add_n _ _ (by omega) _ _ _)), jm, (jl fun _ h => h.own.ls 0 11), js Tryd.underlying9, (jB rfl rfl rfl rfl rfl rfl fun _ => (add_n _ _ (by omega) _ _ _)), jm, (jl fun _ h => h.own.l6 0 15), jn Tryd.underlying26, (jB rfl rfl rfl rfl rfl rfl fun _ => (add_n _ _ (by omega) _ _ _)), jm, (jl fun _ h => h.own.ls 0 19), js Tryd.underlying9, (jB rfl rfl rfl rfl rfl rfl fun _ => (add_n _ _ (by omega) _ _ _)), jm, (jl fun _ h => h.own.ls 0 21), js Tryd.underlying9, (jB rfl rfl rfl rfl rfl rfl fun _ => (add_n _ _ (by omega) _ _ _)), jm, (jl fun _ h => h.own.l7 0 22), (jq fun ww h => (weighWishes m.wishes A2 c2 k2' hF.wishes ww ((r2.below h.own.bel).more h.own.le))), (jB rfl rfl rfl rfl rfl rfl fun _ => (add_n _ _ (by omega) _ _ _)), jm, (jl fun _ h => h.own.l8 0 23), (jq fun ww h => (weighStrs m.filters A3 c3 k3' hF.filters ww ((r3.below h.own.bel).more h.own.le))), (jB rfl rfl rfl rfl rfl rfl fun _ => (add_n _ _ (by omega) _ _ _)), jm, trivial⟩ trivial ?_ ?_
  · exact fun _ _ _ _ _ _ _ _ _ _ _ hh => False.elim hh
  · intro listed a4 w2 hall hI
    have r_2 := hI.vs _ (ma 41 rfl) (.inr (hall 41 (by decide))) trivial
    have H4 : Has a4 44 [(1, .pointer (some ⟨w.heap.size, 0, none⟩)), (2, .int .i64 ((m.client.size + m.wt.size + m.wp.size + m.user.size + m.pass.size + m.codes.length + m.topic.size + m.payload.size + wishW m + filtW m : Nat) : Int))] := Has.of hI.sz hI.df ⟨hI.fx.1, r_2, trivial⟩
    have HB2 := hI.wp
    refine then_normal ?_
    refine wp_ret ?_
    repeat (first | (with_reducible refine block_ret ?_) | (with_reducible refine then_ret ?_))
    exact bodyPost_ret (results_tmp rfl _ _ _) H4.df ⟨congrArg Ending.returned (H4.at_ 2 _ rfl), HB2.own.bel⟩
theorem fieldA_0 (g : Nat) (w : World) : (Instr.fieldAt 33 (.pointer (some ⟨g, 0, none⟩)) 0).run Tryd.prog w = .ok (.pointer (some ⟨g, 0, none⟩)) w := by kernel_rfl
theorem fieldA_1 (g : Nat) (w : World) : (Instr.fieldAt 33 (.pointer (some ⟨g, 0, none⟩)) 1).run Tryd.prog w = .ok (.pointer (some ⟨g, 24, none⟩)) w := by kernel_rfl
theorem Cells.front {w : World} {g : Nat} {l1 l2 : List Value} (h : Cells w g (l1 ++ l2)) : Cells w g l1 := fun j v hv => h j v (by rw [List.getElem?_append_left (List.getElem?_eq_some_iff.1 hv).1]; exact hv)
set_option maxRecDepth 100000 in
set_option maxHeartbeats 1600000 in
theorem heavy18 (m : Mq) (vc vw vf : Value) (xs : List UInt8) (AX : Option Addr) (cX : Nat) (w : World) (hL : MqL w w.heap.size m vc vw vf) (hF : MqFit m) :
    Calls Tryd.prog 22 #[.agg (mqCells m vc vw vf ++ [Value.slice AX xs.length cX]).toArray] w fun e w' => ∃ v, e = .returned v ∧ (∃ b, v = .bool b ∧ (b = false → mqW m ≤ 3000 ∧ xs.length ≤ 3000) ∧ Below w.heap.size w w') := by
  go_enter Tryd.func22, Tryd.ntmps22
  refine Has.start 13 [(0, .agg (mqCells m vc vw vf ++ [Value.slice AX xs.length cX]).toArray)] rfl rfl ⟨rfl, trivial⟩ ?_
  intro a0 H0
  have O0 := Own.start w
  refine rl ?_
  refine H0.bx O0 1 fun a2 w1 O1 H2 => nt ?_
  refine rl ?_
  refine H2.field gz rfl rfl rfl rfl fieldA_0 ?_
  intro a3 H3
  refine H3.loadS rfl rfl rfl rfl rfl (O1.get 0 rfl).front Tryd.underlying30 rfl size_mq rfl ?_
  intro a4 H4
  refine H4.cl (belowC (weighMq m _ _ _ _ (hL.next O1.bel) hF)) ?_
  rintro a5 _ w2 ⟨rfl, hb⟩ H5
  have O2 := O1.call hb
  clear hb
  obtain ⟨b1, q1⟩ : ∃ b, decide (3000 < mqW m) = b := ⟨_, rfl⟩
  refine H5.bb 1 rfl rfl rfl rfl rfl rfl (gtr_i _ _ b1 (by rw [← q1]; simp; omega) _ _ _) rfl fun a7 H7 => ?_
  cases b1 with
  | true =>
    refine H7.offs 4 rfl ?_
    intro a8 H8
    refine H8.pick gz rfl rfl rfl rfl rfl ?_
    intro a9 H9
    refine H9.ms 1 fun a10 H10 => nt ?_
    refine wp_ret ?_
    repeat (first | (with_reducible refine block_ret ?_) | (with_reducible refine then_ret ?_))
    exact bodyPost_ret (results_tmp rfl _ _ _) H10.df ⟨_, congrArg Ending.returned (H10.at_ 2 _ rfl), _, rfl, (fun h => by cases h), O2.bel⟩
  | false =>
    refine H7.field (H7.wt rfl rfl rfl) rfl rfl rfl rfl fieldA_1 ?_
    intro a8 H8
    refine H8.load (H8.wt rfl rfl rfl) rfl rfl rfl rfl (load1_31 _ _ _ _ _ _ ((O2.get 0 rfl).get 24 _ rfl)) ?_
    intro a9 H9
    refine H9.len (H9.wt rfl rfl rfl) rfl rfl rfl rfl Tryd.underlying31 ?_
    intro a10 H10
    obtain ⟨b2, q2⟩ : ∃ b, decide (3000 < xs.length) = b := ⟨_, rfl⟩
    refine H10.bin (H10.wt rfl rfl rfl) rfl rfl rfl rfl rfl (gtr_i _ _ b2 (by rw [← q2]; simp; omega) _ _ _) ?_
    intro a11 H11
    refine H11.pick gz rfl rfl rfl rfl rfl ?_
    intro a12 H12
    refine H12.ms 1 fun a13 H13 => nt ?_
    refine wp_ret ?_
    repeat (first | (with_reducible refine block_ret ?_) | (with_reducible refine then_ret ?_))
    exact bodyPost_ret (results_tmp rfl _ _ _) H13.df ⟨_, congrArg Ending.returned (H13.at_ 2 _ rfl), _, rfl, (fun h => by subst h; simp at q1 q2; omega), O2.bel⟩

end Go.Proofs.YtkcdkjpmbjcmdaaDoor

/-
  How packets that came in read.
-/
namespace Go.Proofs.YtkcdkjpmbjcmdaaDoor
open Go.ChangeShapes Go.WideShapes Go.ChangeAt Go.RowKit Go.Deep

theorem cells_int : Tryd.prog.cellsOf 3 = 1 := by kernel_rfl
theorem cells_str : Tryd.prog.cellsOf 9 = 1 := by kernel_rfl
theorem cells_bool : Tryd.prog.cellsOf 4 = 1 := by kernel_rfl
theorem cells_wish : Tryd.prog.cellsOf 95 = 2 := by kernel_rfl
theorem cells_bytes : Tryd.prog.cellsOf 31 = 1 := by kernel_rfl
theorem cells_ints : Tryd.prog.cellsOf 26 = 1 := by kernel_rfl
theorem cells_strs : Tryd.prog.cellsOf 28 = 1 := by kernel_rfl
theorem cells_wishes : Tryd.prog.cellsOf 27 = 1 := by kernel_rfl
theorem cells_mq : Tryd.prog.cellsOf 30 = 24 := by kernel_rfl
theorem cells_will : Tryd.prog.cellsOf 25 = 5 := by kernel_rfl
theorem bytes_int : Tryd.prog.bytesOf 3 = 8 := by kernel_rfl
theorem bytes_str : Tryd.prog.bytesOf 9 = 16 := by kernel_rfl
theorem bytes_wish : Tryd.prog.bytesOf 95 = 24 := by kernel_rfl
section
variable {H : Type} {enc : TypeId × Value → H} {W : World}
theorem Fit.str {s : ByteArray} (h : Fit (H := H) 9 (.lit (.string s.data.toList))) : Fits s := by
  have h1 : s.data.toList.length ∈ DataW.weights (H := H) Tryd.prog 9 (.lit (.string s.data.toList)) := by
    rw [DataW.weights]
    exact List.mem_singleton.2 rfl
  have h2 := h _ h1
  rw [Array.length_toList] at h2
  exact h2
theorem read_str {n : Nat} {cs : List Value} {x : DataW H × List MemPlace} (hfit : Fit 9 x.1) (h : DataW.trod enc Tryd.prog W 0 (fun _ => true) true n 9 cs = some x) : ∃ s : ByteArray, cs = [.string s] ∧ Fits s := by
  obtain ⟨s, h1, h2, _⟩ := DataW.trod_string Tryd.underlying9 h
  refine ⟨s, h1, ?_⟩
  rw [h2] at hfit
  exact Fit.str hfit
theorem reads_of {a : Addr} {size n : Nat} {xs : List Value} (hl : xs.length = n * size) (hs : 0 < size) (hc : ∀ j u, xs[j]? = some u → W.cell? (a.add j) = some u) : Reads W W.heap.size size (some a) n xs := by
  refine ⟨hl, fun hn => ⟨a, rfl, ?_, hc⟩⟩
  have h0 : 0 < xs.length := by rw [hl]; exact Nat.mul_pos hn hs
  have := World.block_lt_of_cell? W _ (hc 0 _ (List.getElem?_eq_getElem h0))
  rwa [block_of_add] at this
theorem read_ints {n : Nat} {cs : List Value} {x : DataW H × List MemPlace} (hfit : Fit 26 x.1) (h : DataW.trod enc Tryd.prog W 0 (fun _ => true) true n 26 cs = some x) :
    ∃ (l : List Int) (A : Option Addr) (c : Nat), cs = [.slice A l.length c] ∧ l.length ≤ c ∧ l.length ≤ 140737488351232 ∧ Reads W W.heap.size 1 A l.length (l.map iv) := by
  rcases open_ints Tryd.underlying26 Tryd.underlying3 cells_int h with ⟨hcs, _⟩ | ⟨a, len, cap, zs, hcs, _, hl, _, hz, hxe, hc, _⟩
  · exact ⟨[], none, 0, hcs, by simp, by simp, Reads.none_⟩
  · simp only [if_true] at hz
    have hm : cap ≤ 140737488351232 := by
      rw [hxe] at hfit
      have := (hfit.slice Tryd.underlying26).1
      rw [bytes_int] at this
      simp [lits] at this
      omega
    have hlen : (zs.take len).length = len := by rw [List.length_take]; omega
    refine ⟨zs.take len, some a, cap, by rw [hcs, hlen], by omega, by omega, reads_of (by simp) (by decide) ?_⟩
    intro j u hu
    rw [List.getElem?_map] at hu
    obtain ⟨z, hz1, rfl⟩ := Option.map_eq_some_iff.1 hu
    have hj : j < (zs.take len).length := (List.getElem?_eq_some_iff.1 hz1).1
    rw [hlen] at hj
    rw [hc j (by omega)]
    rw [List.getElem?_take_of_lt hj] at hz1
    simp [List.getD, hz1]
theorem read_strs {n : Nat} {cs : List Value} {x : DataW H × List MemPlace} (hfit : Fit 28 x.1) (h : DataW.trod enc Tryd.prog W 0 (fun _ => true) true n 28 cs = some x) :
    ∃ (l : List ByteArray) (A : Option Addr) (c : Nat), cs = [.slice A l.length c] ∧ l.length ≤ c ∧ l.length ≤ 140737488351232 ∧ Reads W W.heap.size 1 A l.length (l.map sv) ∧ ∀ s ∈ l, Fits s := by
  rcases open_strs Tryd.underlying28 Tryd.underlying9 cells_str h with ⟨hcs, _⟩ | ⟨a, len, cap, m, Sx, hcs, _, hl, _, hm, hxe, hi⟩
  · exact ⟨[], none, 0, hcs, by simp, by simp, Reads.none_, fun s hs => by cases hs⟩
  · simp only [if_true] at hm
    rw [hxe] at hfit
    obtain ⟨hw, hf⟩ := hfit.slice Tryd.underlying28
    rw [bytes_str] at hw
    simp at hw
    have hlen : ((List.range len).map Sx).length = len := by simp
    refine ⟨(List.range len).map Sx, some a, cap, by rw [hcs, hlen], by omega, by omega, reads_of (by simp) (by decide) ?_, ?_⟩
    · intro j u hu
      rw [List.getElem?_map, List.getElem?_map] at hu
      obtain ⟨z, hz1, rfl⟩ := Option.map_eq_some_iff.1 hu
      obtain ⟨q, hq, rfl⟩ := Option.map_eq_some_iff.1 hz1
      have hj : j < len := by have := (List.getElem?_eq_some_iff.1 hq).1; simpa using this
      rw [List.getElem?_range hj] at hq
      injection hq with hq
      subst hq
      exact (hi j (by omega)).1
    · intro s hs
      obtain ⟨i, hi2, rfl⟩ := List.mem_map.1 hs
      exact Fit.str (hf _ (List.mem_map.2 ⟨i, hi2, rfl⟩))
def sOf : Value → ByteArray
  | .string s => s
  | _ => nos
def nOf : Value → Int
  | .int _ n => n
  | _ => 0
theorem wv_at (f : Nat → ByteArray × Int) (len j : Nat) (u : Value) (h : (wv ((List.range len).map f))[j]? = some u) : ∃ i, i < len ∧ ((j = i * 2 ∧ u = .string (f i).1) ∨ (j = i * 2 + 1 ∧ u = .int .i64 (f i).2)) := by
  have hj : j < (wv ((List.range len).map f)).length := (List.getElem?_eq_some_iff.1 h).1
  rw [wv_length] at hj
  simp at hj
  have hi : j / 2 < len := by omega
  refine ⟨j / 2, hi, ?_⟩
  obtain ⟨g0, g1⟩ := wv_get ((List.range len).map f) (j / 2) (f (j / 2)) (by rw [List.getElem?_map, List.getElem?_range hi]; rfl)
  rcases Nat.mod_two_eq_zero_or_one j with e | e
  · left
    have : j = j / 2 * 2 + 0 := by omega
    rw [this, g0] at h
    injection h with h
    exact ⟨by omega, h.symm⟩
  · right
    have : j = j / 2 * 2 + 1 := by omega
    rw [this, g1] at h
    injection h with h
    exact ⟨by omega, h.symm⟩
theorem read_wishes {n : Nat} {cs : List Value} {x : DataW H × List MemPlace} (hfit : Fit 27 x.1) (h : DataW.trod enc Tryd.prog W 0 (fun _ => true) true n 27 cs = some x) :
    ∃ (l : List (ByteArray × Int)) (A : Option Addr) (c : Nat), cs = [.slice A l.length c] ∧ l.length ≤ c ∧ l.length ≤ 140737488351232 ∧ Reads W W.heap.size 2 A l.length (wv l) ∧ ∀ s ∈ l, Fits s.1 := by
  rcases open_slice_pairs Tryd.underlying27 Tryd.underlying95 cells_wish rfl rfl cells_str cells_int h with ⟨hcs, _⟩ | ⟨a, len, cap, m, k, V0, V1, D0, D1, P0, P1, hcs, _, hl, _, hm, hxe, hi⟩
  · exact ⟨[], none, 0, hcs, by simp, by simp, Reads.none_, fun s hs => by cases hs⟩
  · simp only [if_true] at hm
    rw [hxe] at hfit
    obtain ⟨hw, hf⟩ := hfit.slice Tryd.underlying27
    rw [bytes_wish] at hw
    simp at hw
    have each : ∀ i, i < m → V0 i = .string (sOf (V0 i)) ∧ V1 i = .int .i64 (nOf (V1 i)) ∧ D0 i = .lit (.string (sOf (V0 i)).data.toList) := by
      intro i hi2
      obtain ⟨_, _, t0, t1⟩ := hi i hi2
      obtain ⟨s, e0, x0, _⟩ := DataW.trod_string Tryd.underlying9 t0
      obtain ⟨z, e1, _, _⟩ := DataW.trod_int Tryd.underlying3 t1
      simp only [List.cons.injEq, and_true] at e0 e1
      simp only [Prod.mk.injEq] at x0
      rw [e0, e1, x0.1]
      exact ⟨rfl, rfl, rfl⟩
    have hlen : ((List.range len).map fun i => (sOf (V0 i), nOf (V1 i))).length = len := by simp
    refine ⟨(List.range len).map fun i => (sOf (V0 i), nOf (V1 i)), some a, cap, by rw [hcs, hlen], by omega, by omega, reads_of (wv_length _) (by decide) ?_, ?_⟩
    · intro j u hu
      obtain ⟨i, hi2, ⟨rfl, rfl⟩ | ⟨rfl, rfl⟩⟩ := wv_at _ _ _ _ hu
      · rw [← (each i (by omega)).1]; exact (hi i (by omega)).1
      · rw [← (each i (by omega)).2.1]; exact (hi i (by omega)).2.1
    · intro s hs
      obtain ⟨i, hi2, rfl⟩ := List.mem_map.1 hs
      have hi3 : i < len := by simpa using hi2
      have hd := hf _ (List.mem_map.2 ⟨i, hi2, rfl⟩)
      rw [(each i (by omega)).2.2] at hd
      refine Fit.str (H := H) fun n hn => hd n ?_
      have hw2 : DataW.weights Tryd.prog 95 (DataW.agg [DataW.lit (.string (sOf (V0 i)).data.toList), D1 i]) = DataW.weightsEach Tryd.prog [9, 3] [DataW.lit (.string (sOf (V0 i)).data.toList), D1 i] := by
        simp [DataW.weights, Tryd.underlying95]
      rw [hw2]
      exact DataW.weights_mem_each (j := 0) rfl rfl n hn
set_option maxRecDepth 100000 in
set_option maxHeartbeats 1600000 in
/-- a packet that came in. -/
theorem read_mq {n : Nat} {cs : List Value} {x : DataW H × List MemPlace} (hlen : cs.length = 24) (hfit : Fit 30 x.1) (h : DataW.trod enc Tryd.prog W 0 (fun _ => true) true n 30 cs = some x) :
    ∃ (m : Mq) (vc vw vf : Value), cs = mqCells m vc vw vf ∧ MqL W W.heap.size m vc vw vf ∧ MqFit m := by
  match cs, hlen with
  | [k0, k1, k2, k3, k4, k5, k6, k7, k8, k9, k10, k11, k12, k13, k14, k15, k16, k17, k18, k19, k20, k21, k22, k23], _ =>
    obtain ⟨ysM, mM, _, exM, _, ylM, hfM⟩ := DataW.trod_struct Tryd.underlying30 h
    rw [exM] at hfit
    have fM_0 := hfM 0 _ rfl
    simp only [List.getElem_toArray, List.getElem_cons_zero, cells_int, List.drop_zero, List.take_succ_cons, List.take_zero] at fM_0
    rw [List.getElem?_eq_getElem (by rw [ylM]; decide)] at fM_0
    obtain ⟨kind, e_kind, _, _⟩ := DataW.trod_int Tryd.underlying3 fM_0
    simp only [List.cons.injEq, and_true] at e_kind
    subst e_kind
    have fM_1 := hfM 1 _ rfl
    simp only [List.getElem_toArray, List.getElem_cons_zero, List.getElem_cons_succ, cells_str, List.drop_zero, List.take_succ_cons, List.take_zero, List.drop_succ_cons] at fM_1
    rw [List.getElem?_eq_getElem (by rw [ylM]; decide)] at fM_1
    have gfM_1 := Fit.struct hfit Tryd.underlying30 1 _ rfl _ (List.getElem?_eq_getElem (by rw [ylM]; decide))
    obtain ⟨client, e_client, t_client⟩ := read_str gfM_1 fM_1
    simp only [List.cons.injEq, and_true] at e_client
    subst e_client
    have fM_2 := hfM 2 _ rfl
    simp only [List.getElem_toArray, List.getElem_cons_zero, List.getElem_cons_succ, cells_bool, List.drop_zero, List.take_succ_cons, List.take_zero, List.drop_succ_cons] at fM_2
    rw [List.getElem?_eq_getElem (by rw [ylM]; decide)] at fM_2
    obtain ⟨clean, e_clean, _⟩ := DataW.trod_bool Tryd.underlying4 fM_2
    simp only [List.cons.injEq, and_true] at e_clean
    subst e_clean
    have fM_3 := hfM 3 _ rfl
    simp only [List.getElem_toArray, List.getElem_cons_zero, List.getElem_cons_succ, cells_int, List.drop_zero, List.take_succ_cons, List.take_zero, List.drop_succ_cons] at fM_3
    rw [List.getElem?_eq_getElem (by rw [ylM]; decide)] at fM_3
    obtain ⟨keep, e_keep, _, _⟩ := DataW.trod_int Tryd.underlying3 fM_3
    simp only [List.cons.injEq, and_true] at e_keep
    subst e_keep
    have fM_4 := hfM 4 _ rfl
    simp only [List.getElem_toArray, List.getElem_cons_zero, List.getElem_cons_succ, cells_will, List.drop_zero, List.take_succ_cons, List.take_zero, List.drop_succ_cons] at fM_4
    rw [List.getElem?_eq_getElem (by rw [ylM]; decide)] at fM_4
    have gfM_4 := Fit.struct hfit Tryd.underlying30 4 _ rfl _ (List.getElem?_eq_getElem (by rw [ylM]; decide))
    obtain ⟨ysW, mW, _, exW, _, ylW, hfW⟩ := DataW.trod_struct Tryd.underlying25 fM_4
    rw [exW] at gfM_4
    have fW_0 := hfW 0 _ rfl
    simp only [List.getElem_toArray, List.getElem_cons_zero, cells_bool, List.drop_zero, List.take_succ_cons, List.take_zero] at fW_0
    rw [List.getElem?_eq_getElem (by rw [ylW]; decide)] at fW_0
    obtain ⟨won, e_won, _⟩ := DataW.trod_bool Tryd.underlying4 fW_0
    simp only [List.cons.injEq, and_true] at e_won
    subst e_won
    have fW_1 := hfW 1 _ rfl
    simp only [List.getElem_toArray, List.getElem_cons_zero, List.getElem_cons_succ, cells_str, List.drop_zero, List.take_succ_cons, List.take_zero, List.drop_succ_cons] at fW_1
    rw [List.getElem?_eq_getElem (by rw [ylW]; decide)] at fW_1
    have gfW_1 := Fit.struct gfM_4 Tryd.underlying25 1 _ rfl _ (List.getElem?_eq_getElem (by rw [ylW]; decide))
    obtain ⟨wt, e_wt, t_wt⟩ := read_str gfW_1 fW_1
    simp only [List.cons.injEq, and_true] at e_wt
    subst e_wt
    have fW_2 := hfW 2 _ rfl
    simp only [List.getElem_toArray, List.getElem_cons_zero, List.getElem_cons_succ, cells_str, List.drop_zero, List.take_succ_cons, List.take_zero, List.drop_succ_cons] at fW_2
    rw [List.getElem?_eq_getElem (by rw [ylW]; decide)] at fW_2
    have gfW_2 := Fit.struct gfM_4 Tryd.underlying25 2 _ rfl _ (List.getElem?_eq_getElem (by rw [ylW]; decide))
    obtain ⟨wp, e_wp, t_wp⟩ := read_str gfW_2 fW_2
    simp only [List.cons.injEq, and_true] at e_wp
    subst e_wp
    have fW_3 := hfW 3 _ rfl
    simp only [List.getElem_toArray, List.getElem_cons_zero, List.getElem_cons_succ, cells_int, List.drop_zero, List.take_succ_cons, List.take_zero, List.drop_succ_cons] at fW_3
    rw [List.getElem?_eq_getElem (by rw [ylW]; decide)] at fW_3
    obtain ⟨wq, e_wq, _, _⟩ := DataW.trod_int Tryd.underlying3 fW_3
    simp only [List.cons.injEq, and_true] at e_wq
    subst e_wq
    have fW_4 := hfW 4 _ rfl
    simp only [List.getElem_toArray, List.getElem_cons_zero, List.getElem_cons_succ, cells_bool, List.drop_zero, List.take_succ_cons, List.take_zero, List.drop_succ_cons] at fW_4
    rw [List.getElem?_eq_getElem (by rw [ylW]; decide)] at fW_4
    obtain ⟨wr, e_wr, _⟩ := DataW.trod_bool Tryd.underlying4 fW_4
    simp only [List.cons.injEq, and_true] at e_wr
    subst e_wr
    have fM_5 := hfM 5 _ rfl
    simp only [List.getElem_toArray, List.getElem_cons_zero, List.getElem_cons_succ, cells_str, List.drop_zero, List.take_succ_cons, List.take_zero, List.drop_succ_cons] at fM_5
    rw [List.getElem?_eq_getElem (by rw [ylM]; decide)] at fM_5
    have gfM_5 := Fit.struct hfit Tryd.underlying30 5 _ rfl _ (List.getElem?_eq_getElem (by rw [ylM]; decide))
    obtain ⟨user, e_user, t_user⟩ := read_str gfM_5 fM_5
    simp only [List.cons.injEq, and_true] at e_user
    subst e_user
    have fM_6 := hfM 6 _ rfl
    simp only [List.getElem_toArray, List.getElem_cons_zero, List.getElem_cons_succ, cells_bool, List.drop_zero, List.take_succ_cons, List.take_zero, List.drop_succ_cons] at fM_6
    rw [List.getElem?_eq_getElem (by rw [ylM]; decide)] at fM_6
    obtain ⟨hu, e_hu, _⟩ := DataW.trod_bool Tryd.underlying4 fM_6
    simp only [List.cons.injEq, and_true] at e_hu
    subst e_hu
    have fM_7 := hfM 7 _ rfl
    simp only [List.getElem_toArray, List.getElem_cons_zero, List.getElem_cons_succ, cells_str, List.drop_zero, List.take_succ_cons, List.take_zero, List.drop_succ_cons] at fM_7
    rw [List.getElem?_eq_getElem (by rw [ylM]; decide)] at fM_7
    have gfM_7 := Fit.struct hfit Tryd.underlying30 7 _ rfl _ (List.getElem?_eq_getElem (by rw [ylM]; decide))
    obtain ⟨pass, e_pass, t_pass⟩ := read_str gfM_7 fM_7
    simp only [List.cons.injEq, and_true] at e_pass
    subst e_pass
    have fM_8 := hfM 8 _ rfl
    simp only [List.getElem_toArray, List.getElem_cons_zero, List.getElem_cons_succ, cells_bool, List.drop_zero, List.take_succ_cons, List.take_zero, List.drop_succ_cons] at fM_8
    rw [List.getElem?_eq_getElem (by rw [ylM]; decide)] at fM_8
    obtain ⟨hp, e_hp, _⟩ := DataW.trod_bool Tryd.underlying4 fM_8
    simp only [List.cons.injEq, and_true] at e_hp
    subst e_hp
    have fM_9 := hfM 9 _ rfl
    simp only [List.getElem_toArray, List.getElem_cons_zero, List.getElem_cons_succ, cells_bool, List.drop_zero, List.take_succ_cons, List.take_zero, List.drop_succ_cons] at fM_9
    rw [List.getElem?_eq_getElem (by rw [ylM]; decide)] at fM_9
    obtain ⟨present, e_present, _⟩ := DataW.trod_bool Tryd.underlying4 fM_9
    simp only [List.cons.injEq, and_true] at e_present
    subst e_present
    have fM_10 := hfM 10 _ rfl
    simp only [List.getElem_toArray, List.getElem_cons_zero, List.getElem_cons_succ, cells_int, List.drop_zero, List.take_succ_cons, List.take_zero, List.drop_succ_cons] at fM_10
    rw [List.getElem?_eq_getElem (by rw [ylM]; decide)] at fM_10
    obtain ⟨code, e_code, _, _⟩ := DataW.trod_int Tryd.underlying3 fM_10
    simp only [List.cons.injEq, and_true] at e_code
    subst e_code
    have fM_11 := hfM 11 _ rfl
    simp only [List.getElem_toArray, List.getElem_cons_zero, List.getElem_cons_succ, cells_ints, List.drop_zero, List.take_succ_cons, List.take_zero, List.drop_succ_cons] at fM_11
    rw [List.getElem?_eq_getElem (by rw [ylM]; decide)] at fM_11
    have gfM_11 := Fit.struct hfit Tryd.underlying30 11 _ rfl _ (List.getElem?_eq_getElem (by rw [ylM]; decide))
    obtain ⟨codes, A1, c1, e_codes, l1, b1, r1⟩ := read_ints gfM_11 fM_11
    simp only [List.cons.injEq, and_true] at e_codes
    subst e_codes
    have fM_12 := hfM 12 _ rfl
    simp only [List.getElem_toArray, List.getElem_cons_zero, List.getElem_cons_succ, cells_bool, List.drop_zero, List.take_succ_cons, List.take_zero, List.drop_succ_cons] at fM_12
    rw [List.getElem?_eq_getElem (by rw [ylM]; decide)] at fM_12
    obtain ⟨dup, e_dup, _⟩ := DataW.trod_bool Tryd.underlying4 fM_12
    simp only [List.cons.injEq, and_true] at e_dup
    subst e_dup
    have fM_13 := hfM 13 _ rfl
    simp only [List.getElem_toArray, List.getElem_cons_zero, List.getElem_cons_succ, cells_int, List.drop_zero, List.take_succ_cons, List.take_zero, List.drop_succ_cons] at fM_13
    rw [List.getElem?_eq_getElem (by rw [ylM]; decide)] at fM_13
    obtain ⟨qos, e_qos, _, _⟩ := DataW.trod_int Tryd.underlying3 fM_13
    simp only [List.cons.injEq, and_true] at e_qos
    subst e_qos
    have fM_14 := hfM 14 _ rfl
    simp only [List.getElem_toArray, List.getElem_cons_zero, List.getElem_cons_succ, cells_bool, List.drop_zero, List.take_succ_cons, List.take_zero, List.drop_succ_cons] at fM_14
    rw [List.getElem?_eq_getElem (by rw [ylM]; decide)] at fM_14
    obtain ⟨retain, e_retain, _⟩ := DataW.trod_bool Tryd.underlying4 fM_14
    simp only [List.cons.injEq, and_true] at e_retain
    subst e_retain
    have fM_15 := hfM 15 _ rfl
    simp only [List.getElem_toArray, List.getElem_cons_zero, List.getElem_cons_succ, cells_str, List.drop_zero, List.take_succ_cons, List.take_zero, List.drop_succ_cons] at fM_15
    rw [List.getElem?_eq_getElem (by rw [ylM]; decide)] at fM_15
    have gfM_15 := Fit.struct hfit Tryd.underlying30 15 _ rfl _ (List.getElem?_eq_getElem (by rw [ylM]; decide))
    obtain ⟨topic, e_topic, t_topic⟩ := read_str gfM_15 fM_15
    simp only [List.cons.injEq, and_true] at e_topic
    subst e_topic
    have fM_16 := hfM 16 _ rfl
    simp only [List.getElem_toArray, List.getElem_cons_zero, List.getElem_cons_succ, cells_int, List.drop_zero, List.take_succ_cons, List.take_zero, List.drop_succ_cons] at fM_16
    rw [List.getElem?_eq_getElem (by rw [ylM]; decide)] at fM_16
    obtain ⟨id, e_id, _, _⟩ := DataW.trod_int Tryd.underlying3 fM_16
    simp only [List.cons.injEq, and_true] at e_id
    subst e_id
    have fM_17 := hfM 17 _ rfl
    simp only [List.getElem_toArray, List.getElem_cons_zero, List.getElem_cons_succ, cells_str, List.drop_zero, List.take_succ_cons, List.take_zero, List.drop_succ_cons] at fM_17
    rw [List.getElem?_eq_getElem (by rw [ylM]; decide)] at fM_17
    have gfM_17 := Fit.struct hfit Tryd.underlying30 17 _ rfl _ (List.getElem?_eq_getElem (by rw [ylM]; decide))
    obtain ⟨payload, e_payload, t_payload⟩ := read_str gfM_17 fM_17
    simp only [List.cons.injEq, and_true] at e_payload
    subst e_payload
    have fM_18 := hfM 18 _ rfl
    simp only [List.getElem_toArray, List.getElem_cons_zero, List.getElem_cons_succ, cells_wishes, List.drop_zero, List.take_succ_cons, List.take_zero, List.drop_succ_cons] at fM_18
    rw [List.getElem?_eq_getElem (by rw [ylM]; decide)] at fM_18
    have gfM_18 := Fit.struct hfit Tryd.underlying30 18 _ rfl _ (List.getElem?_eq_getElem (by rw [ylM]; decide))
    obtain ⟨wishes, A2, c2, e_wishes, l2, b2, r2, t_wishes⟩ := read_wishes gfM_18 fM_18
    simp only [List.cons.injEq, and_true] at e_wishes
    subst e_wishes
    have fM_19 := hfM 19 _ rfl
    simp only [List.getElem_toArray, List.getElem_cons_zero, List.getElem_cons_succ, cells_strs, List.drop_zero, List.take_succ_cons, List.take_zero, List.drop_succ_cons] at fM_19
    rw [List.getElem?_eq_getElem (by rw [ylM]; decide)] at fM_19
    have gfM_19 := Fit.struct hfit Tryd.underlying30 19 _ rfl _ (List.getElem?_eq_getElem (by rw [ylM]; decide))
    obtain ⟨filters, A3, c3, e_filters, l3, b3, r3, t_filters⟩ := read_strs gfM_19 fM_19
    simp only [List.cons.injEq, and_true] at e_filters
    subst e_filters
    exact ⟨{ kind := kind, client := client, clean := clean, keep := keep, won := won, wt := wt, wp := wp, wq := wq, wr := wr, user := user, hu := hu, pass := pass, hp := hp, present := present, code := code, codes := codes, dup := dup, qos := qos, retain := retain, topic := topic, id := id, payload := payload, wishes := wishes, filters := filters }, _, _, _, rfl, ⟨A1, c1, A2, c2, A3, c3, rfl, rfl, rfl, l1, l2, l3, b1, b2, b3, r1, r2, r3⟩, ⟨t_client, t_wt, t_wp, t_user, t_pass, t_topic, t_payload, t_wishes, t_filters⟩⟩
end
/-- the argument of the laws of chapter 18. -/
def AskMq (W : World) (A : Option Addr) (len : Nat) : Prop :=
  ∀ i, i < len → ∃ (b o : Nat) (m : Mq) (vc vw vf : Value) (xs : List UInt8) (AX : Option Addr) (cX : Nat), A = some ⟨b, o, none⟩ ∧ b < W.heap.size ∧ W.rangeAt b (o + i * 25) (mqCells m vc vw vf ++ [Value.slice AX xs.length cX]) ∧
    MqL W W.heap.size m vc vw vf ∧ MqFit m ∧ xs.length ≤ cX ∧ cX ≤ 140737488351232 ∧ RB W W.heap.size AX xs
theorem cells_ask : Tryd.prog.cellsOf 33 = 25 := by kernel_rfl
set_option maxRecDepth 100000 in
theorem AskMq.of {H : Type} {enc : TypeId × Value → H} {W : World} {v : Value} {d : DataW H} {p : List MemPlace} (h : Comes enc W 22 v d p) :
    ∃ (A : Option Addr) (len cap : Nat), v = .slice A len cap ∧ len ≤ cap ∧ cap ≤ maxLen ∧ AskMq W A len := by
  obtain ⟨A, len, cap, fuel, rfl, hl, hc, hi⟩ := read_rows Tryd.underlying22 cells_ask (by decide) h
  refine ⟨A, len, cap, rfl, hl, hc, fun i hlt => ?_⟩
  obtain ⟨b, o, cs, x, hA, hblt, hlen, hcell, htr, hft⟩ := hi i hlt
  obtain ⟨ys, k, _, ex, _, yl, hf⟩ := DataW.trod_struct Tryd.underlying33 htr
  rw [ex] at hft
  have f0 := hf 0 _ rfl
  have f1 := hf 1 _ rfl
  simp only [List.getElem_toArray, List.getElem_cons_zero, List.getElem_cons_succ, cells_mq, cells_bytes, List.drop_zero] at f0 f1
  rw [List.getElem?_eq_getElem (by rw [yl]; decide)] at f0 f1
  have g0 := Fit.struct hft Tryd.underlying33 0 _ rfl _ (List.getElem?_eq_getElem (by rw [yl]; decide))
  have g1 := Fit.struct hft Tryd.underlying33 1 _ rfl _ (List.getElem?_eq_getElem (by rw [yl]; decide))
  obtain ⟨m, vc, vw, vf, e0, hL, hF⟩ := read_mq (by rw [List.length_take]; omega) g0 f0
  obtain ⟨xs, AX, cX, e1, l1, l2, r1⟩ := read_bytes g1 f1
  refine ⟨b, o, m, vc, vw, vf, xs, AX, cX, hA, hblt, ?_, hL, hF, l1, l2, r1⟩
  have ecs : cs = mqCells m vc vw vf ++ [Value.slice AX xs.length cX] := by
    rw [← e0, ← e1]
    have h1 : (cs.drop 24).take 1 = cs.drop 24 := List.take_of_length_le (by rw [List.length_drop]; omega)
    rw [h1, List.take_append_drop]
  intro j u hu
  rw [← ecs] at hu
  have hj : j < 25 := by have := (List.getElem?_eq_some_iff.1 hu).1; omega
  rw [hcell j hj]
  exact hu
end Go.Proofs.YtkcdkjpmbjcmdaaDoor

/-
  The page's check of wishes.
-/
namespace Go.Proofs.YtkcdkjpmbjcmdaaDoor
open Go.RowKit

set_option maxRecDepth 100000 in
theorem refWishes (l : List (ByteArray × Int)) (n : Nat) (hl : l.length = n) (hfit : ∀ s ∈ l, Fits s.1) (A : Option Addr) (c : Nat) (hn : n ≤ 140737488351232) (w : World) (hT : Wd w) (hr : Reads w w.heap.size 2 A n (wv l)) :
    Calls Tryd.prog 55 #[.slice A n c] w fun e w' => e = .returned (.bool (wishesOk l)) ∧ Below w.heap.size w w' := by
  have HF := Lib.hid (show wishesAll (l.drop 0) = wishesAll l from rfl)
  have KW := Lib.hid (fun x w1 => refNumB x 2 w1)
  have HO := Lib.hid (show wishesOk l = (wishesAll l && inRB n 1 8) by unfold wishesOk; rw [hl])
  generalize wishesOk l = Z at *
  have HL := Lib.hid hl
  have HFit := Lib.hid hfit
  have HR := Lib.hid hr
  have HT := Lib.hid hT
  clear hl hfit hr hT
  by_cases h1 : (n : Int) < 1
  · have HP : Hid (inRB n 1 8 = false) := Lib.hid (by unfold inRB; rw [decide_eq_false (by omega)]; rfl)
    go_enter Tryd.func55, Tryd.ntmps55
    go_wp2
    go_ret
    exact ⟨by rw [HO.out, HP.out, Bool.and_false]; rfl, Below.refl _ _⟩
  by_cases h8 : (8 : Int) < n
  · have HP : Hid (inRB n 1 8 = false) := Lib.hid (by unfold inRB; rw [decide_eq_false (show ¬ (n : Int) ≤ 8 by omega), Bool.and_false])
    go_enter Tryd.func55, Tryd.ntmps55
    go_wp2
    go_ret
    exact ⟨by rw [HO.out, HP.out, Bool.and_false]; rfl, Below.refl _ _⟩
  have HP : Hid (inRB n 1 8 = true) := inRB_iff.2 ⟨by omega, by omega⟩
  go_enter Tryd.func55, Tryd.ntmps55
  go_wp2
  go_loopw [3] (fun i wr => ∃ k : Nat, i = .int .i64 k ∧ k ≤ n ∧ Below w.heap.size w wr ∧ Hid (wishesAll (l.drop k) = wishesAll l)) (fun i _ => n - (intOf i).toNat)
  case atStart => exact ⟨0, rfl, Nat.zero_le _, Below.refl _ _, HF⟩
  case round =>
    obtain ⟨k, rfl, hk, hb, hf⟩ := hrel
    by_cases hlt : k < n
    · obtain ⟨b, o, rfl, hblt, hcv⟩ := (HR.out.below hb).get2 hlt
      obtain ⟨x, hx⟩ : ∃ x, l[k]? = some x := ⟨l[k]'(by rw [HL.out]; omega), List.getElem?_eq_getElem _⟩
      obtain ⟨g0, g1⟩ := wv_get l k x hx
      have cv0 := hcv 0 _ (by omega) g0
      have cv1 := hcv 1 _ (by omega) g1
      rw [Nat.add_zero] at cv0
      have hd := drop_of hx
      have hf2 := hf.out
      rw [hd, wishesAll] at hf2
      have HB := Lib.hid hb
      have K := Lib.hid (refTextV x.1 (HFit.out x (List.mem_of_getElem? hx)) 1 64 wr (HT.out.below HB.out))
      have hlt2 : b < wr.heap.size := Nat.lt_of_lt_of_le hblt hb.size
      have HLT2 := Lib.hid hlt2
      have CV1 := Lib.hid cv1
      have K2 := Lib.hid (fun w1 => KW.out x.2 w1)
      clear cv1 hlt2 hblt
      cases h1 : textOk x.1 1 64 with
      | true =>
        rw [h1] at K hf2
        cases h2 : inRB x.2 0 2 with
        | true =>
          rw [h2] at K2 hf2
          have HQ : Hid (wishesAll (l.drop (k + 1)) = wishesAll l) := hf2
          clear hx hd hf2 hf hb h1 h2 g0 g1 hcv
          go_wp2_with (first
            | (go_at_call 50; (with_reducible refine K.out.mono ?_); rintro _ w2 ⟨rfl, hb2⟩; have HB2 := Lib.hid (HB.out.trans (hb2.mono HB.out.size)); have c1 := (cellB hb2 HLT2.out).trans CV1.out; clear hb2)
            | (go_at_call 51; (with_reducible refine (K2.out _).mono ?_); rintro _ w3 ⟨rfl, rfl⟩))
          go_roundw
          case rel => exact ⟨k + 1, by go_num, by omega, HB2.out, HQ⟩
          case measure => simp [intOf]; omega
        | false =>
          rw [h2] at K2 hf2
          have HQ : Hid (wishesAll l = false) := hf2.symm
          clear hx hd hf2 hf hb h1 h2 g0 g1 hcv
          go_wp2_with (first
            | (go_at_call 50; (with_reducible refine K.out.mono ?_); rintro _ w2 ⟨rfl, hb2⟩; have HB2 := Lib.hid (HB.out.trans (hb2.mono HB.out.size)); have c1 := (cellB hb2 HLT2.out).trans CV1.out; clear hb2)
            | (go_at_call 51; (with_reducible refine (K2.out _).mono ?_); rintro _ w3 ⟨rfl, rfl⟩))
          go_ret
          exact ⟨by rw [HO.out, HQ.out]; rfl, HB2.out⟩
      | false =>
        rw [h1] at K hf2
        have HQ : Hid (wishesAll l = false) := hf2.symm
        clear hx hd hf2 hf hb h1 g0 g1 hcv
        go_wp2_with (go_at_call 50; (with_reducible refine K.out.mono ?_); rintro _ w2 ⟨rfl, hb2⟩; have HB2 := Lib.hid (HB.out.trans (hb2.mono HB.out.size)); clear hb2)
        go_ret
        exact ⟨by rw [HO.out, HQ.out]; rfl, HB2.out⟩
    · have HQ : Hid (wishesAll l = true) := by
        have := hf.out
        rw [List.drop_eq_nil_of_le (by rw [HL.out]; omega)] at this
        exact this.symm
      clear hf
      go_wp2
      go_ret
      exact ⟨by rw [HO.out, HP.out, HQ.out]; rfl, hb⟩

end Go.Proofs.YtkcdkjpmbjcmdaaDoor

/-
  The page's May: which packets may be.
-/
namespace Go.Proofs.YtkcdkjpmbjcmdaaDoor
open Go.RowKit

theorem conn7 (a b c d e f g : Bool) : ((((((a && b) && c) && d) && e) && f) && g) = (a && (b && (c && (d && (f && (e && g)))))) := by
  cases a <;> cases b <;> cases c <;> cases d <;> cases e <;> cases f <;> cases g <;> rfl
theorem same_symm (a b : Mq) : Mq.same a b = Mq.same b a := by
  rw [Bool.eq_iff_iff, same_iff, same_iff]
  exact eq_comm
theorem pub_zero (m : Mq) (h : (m.qos == 0) = true) : publishOk m = ((((((textOk m.topic 1 64 && plainOf (sb m.topic)) && inRB m.qos 0 2) && decide ((m.payload.size : Int) ≤ 128)) && !m.dup)) && (m.id == 0)) := by
  have h0 : m.qos = 0 := by simpa using h
  unfold publishOk topicOk
  rw [h0]
  cases textOk m.topic 1 64 <;> cases plainOf (sb m.topic) <;> cases decide ((m.payload.size : Int) ≤ 128) <;> cases m.dup <;> cases (m.id == 0) <;> rfl
theorem pub_more (m : Mq) (h : (m.qos == 0) = false) : publishOk m = ((((textOk m.topic 1 64 && plainOf (sb m.topic)) && inRB m.qos 0 2) && decide ((m.payload.size : Int) ≤ 128)) && inRB m.id 1 65535) := by
  have h0 : ¬ m.qos = 0 := by simpa using h
  unfold publishOk topicOk
  cases hq : inRB m.qos 0 2 with
  | false => cases textOk m.topic 1 64 <;> cases plainOf (sb m.topic) <;> rfl
  | true =>
    have := inRB_iff.1 hq
    have h1 : decide (0 < m.qos) = true := by simp; omega
    rw [h, h1]
    cases textOk m.topic 1 64 <;> cases plainOf (sb m.topic) <;> cases decide ((m.payload.size : Int) ≤ 128) <;> cases inRB m.id 1 65535 <;> rfl
theorem list_and (a : Bool) (n : Nat) (c : Bool) : (((a && decide ((1 : Int) ≤ n)) && decide ((n : Int) ≤ 8)) && c) = (a && (c && inRB n 1 8)) := by
  unfold inRB
  cases a <;> cases decide ((1 : Int) ≤ n) <;> cases decide ((n : Int) ≤ 8) <;> cases c <;> rfl
theorem codesAll_snoc (l : List Int) (x : Int) : codesAll (l ++ [x]) = (codesAll l && (inRB x 0 2 || (x == 128))) := by
  induction l with
  | nil => simp [codesAll]
  | cons y l ih => rw [List.cons_append, codesAll, codesAll, ih, Bool.and_assoc]
theorem filtersAll_snoc (l : List ByteArray) (x : ByteArray) : filtersAll (l ++ [x]) = (filtersAll l && textOk x 1 64) := by
  induction l with
  | nil => simp [filtersAll]
  | cons y l ih => rw [List.cons_append, filtersAll, filtersAll, ih, Bool.and_assoc]

set_option maxRecDepth 100000 in
set_option maxHeartbeats 6400000 in
theorem refMay (m : Mq) (vc vw vf : Value) (w : World) (hL : MqL w w.heap.size m vc vw vf) (hF : MqFit m) (hW : Wd w) :
    Calls Tryd.prog 25 #[.agg (mqCells m vc vw vf).toArray] w fun e w' => e = .returned (.bool (mayBb m)) ∧ Below w.heap.size w w' := by
  obtain ⟨A1, c1, A2, c2, A3, c3, rfl, rfl, rfl, l1, l2, l3, k1', k2', k3', r1, r2, r3⟩ := id hL
  go_enter Tryd.func25, Tryd.ntmps25
  refine Has.start 289 [(0, .agg (mqCells m (.slice A1 m.codes.length c1) (.slice A2 m.wishes.length c2) (.slice A3 m.filters.length c3)).toArray)] rfl rfl ⟨rfl, trivial⟩ ?_
  intro a0 H0
  have O0 := Own.start w
  refine rl ?_
  refine H0.bx O0 1 fun a2 w1 O1 H2 => nt ?_
  refine H2.rg 1 fun a3 H3 => ?_
  refine H3.ld 0 (O1.li 0 0) fun a4 H4 => ?_
  refine H4.any (w' := w1) gz rfl rfl (.agg (mqCells (mq0 m.kind) nilV nilV nilV).toArray) (by intro cs b h; cases h) (by kernel_rfl) (by kernel_rfl) ?_
  intro a5 H5
  refine H5.al O1 0 zero_mq fun a6 w2 O2 H6 => ?_
  refine H6.st O2 0 0 (hi := size_mq) fun a7 w3 O3 H7 => nt ?_
  refine H7.rg 1 fun a8 H8 => nt ?_
  refine wp_seq_join (fun a w' => ∃ vc' vw' vf', Has a 289 [(1, .pointer (some ⟨w.heap.size, 0, none⟩)), (3, .pointer (some ⟨w1.heap.size, 0, none⟩)), (4, .bool (okOf m))] ∧ MqL w' w'.heap.size (onlyOf m) vc' vw' vf' ∧ Own w w.heap.size [(w1.heap.size, mqCells (onlyOf m) vc' vw' vf'), (w.heap.size, (mqCells m (.slice A1 m.codes.length c1) (.slice A2 m.wishes.length c2) (.slice A3 m.filters.length c3)))] w') ?_ ?_
  · skip
    refine H8.rg 1 fun a9 H9 => ?_
    refine H9.ld 0 (O3.li 1 0) fun a10 H10 => nt ?_
    refine wp_block ?_
    have hk0 : True := trivial
    obtain ⟨b1, h1⟩ : ∃ b, (m.kind == 1) = b := ⟨_, rfl⟩
    cases b1 with
    | true =>
      have k1 : m.kind = 1 := by simpa using h1
      refine rl ?_
      refine H10.bn 1 (eql_iB _ _ _ h1 _ _ _) fun a12 H12 => nt ?_
      refine H12.condT rfl ?_
      have ho : onlyOf m = { mq0 m.kind with client := m.client, clean := m.clean, keep := m.keep, won := m.won, wt := m.wt, wp := m.wp, wq := m.wq, wr := m.wr, user := m.user, hu := m.hu, pass := m.pass, hp := m.hp } := by unfold onlyOf; rw [if_pos k1]
      have hq : okOf m = connectOk m := by unfold okOf; rw [if_pos k1]
      repeat (refine wp_seq ?_)
      refine H12.ds O3 0 [1, 3, 4] rfl [ec 0 14 (.pointer (some ⟨w.heap.size, 1, none⟩)), ec 1 15 (.string m.client), ec 2 16 (.pointer (some ⟨w.heap.size, 2, none⟩)), ec 3 17 (.bool m.clean), ec 4 18 (.pointer (some ⟨w.heap.size, 3, none⟩)), ec 5 19 (.int .i64 m.keep), ec 6 20 (.pointer (some ⟨w.heap.size, 4, none⟩)), ec 7 21 (.agg #[.bool m.won, .string m.wt, .string m.wp, .int .i64 m.wq, .bool m.wr]), ec 8 22 (.pointer (some ⟨w.heap.size, 9, none⟩)), ec 9 23 (.string m.user), ec 10 24 (.pointer (some ⟨w.heap.size, 10, none⟩)), ec 11 25 (.bool m.hu), ec 12 26 (.pointer (some ⟨w.heap.size, 11, none⟩)), ec 13 27 (.string m.pass), ec 14 28 (.pointer (some ⟨w.heap.size, 12, none⟩)), ec 15 29 (.bool m.hp), ec 16 30 (.pointer (some ⟨w1.heap.size, 1, none⟩)), ec 18 31 (.pointer (some ⟨w1.heap.size, 2, none⟩)), ec 20 32 (.pointer (some ⟨w1.heap.size, 3, none⟩)), ec 22 33 (.pointer (some ⟨w1.heap.size, 4, none⟩)), ec 24 34 (.pointer (some ⟨w1.heap.size, 9, none⟩)), ec 26 35 (.pointer (some ⟨w1.heap.size, 10, none⟩)), ec 28 36 (.pointer (some ⟨w1.heap.size, 11, none⟩)), ec 30 37 (.pointer (some ⟨w1.heap.size, 12, none⟩))] [⟨31, 12, [(.bool m.hp)]⟩, ⟨29, 11, [(.string m.pass)]⟩, ⟨27, 10, [(.bool m.hu)]⟩, ⟨25, 9, [(.string m.user)]⟩, ⟨23, 4, [.bool m.won, .string m.wt, .string m.wp, .int .i64 m.wq, .bool m.wr]⟩, ⟨21, 3, [(.int .i64 m.keep)]⟩, ⟨19, 2, [(.bool m.clean)]⟩, ⟨17, 1, [(.string m.client)]⟩] rfl rfl ⟨jm, jl fun _ ⟨_, _, h⟩ => load1_s _ _ _ _ ((h.get 1 rfl).get 1 _ rfl), jm, jl fun _ ⟨_, _, h⟩ => load1_b _ _ _ _ ((h.get 1 rfl).get 2 _ rfl), jm, jl fun _ ⟨_, _, h⟩ => load1_i _ _ _ _ ((h.get 1 rfl).get 3 _ rfl), jm, jl fun _ ⟨_, _, h⟩ => load_will _ _ _ _ _ _ _ _ (h.get 1 rfl) rfl rfl rfl rfl rfl, jm, jl fun _ ⟨_, _, h⟩ => load1_s _ _ _ _ ((h.get 1 rfl).get 9 _ rfl), jm, jl fun _ ⟨_, _, h⟩ => load1_b _ _ _ _ ((h.get 1 rfl).get 10 _ rfl), jm, jl fun _ ⟨_, _, h⟩ => load1_s _ _ _ _ ((h.get 1 rfl).get 11 _ rfl), jm, jl fun _ ⟨_, _, h⟩ => load1_b _ _ _ _ ((h.get 1 rfl).get 12 _ rfl), jm, jm, jm, jm, jm, jm, jm, jm, trivial⟩ ⟨q1 fun _ u h f => store1_b _ _ _ u _ h f, q1 fun _ u h f => store1_s _ _ _ u _ h f, q1 fun _ u h f => store1_b _ _ _ u _ h f, q1 fun _ u h f => store1_s _ _ _ u _ h f, q5, q1 fun _ u h f => store1_i _ _ _ u _ h f, q1 fun _ u h f => store1_b _ _ _ u _ h f, q1 fun _ u h f => store1_s _ _ _ u _ h f, trivial⟩ ?_
      intro a13 w4 H13 O4
      have O4 : Own w w.heap.size [(w1.heap.size, (mqCells (onlyOf m) nilV nilV nilV)), (w.heap.size, (mqCells m (.slice A1 m.codes.length c1) (.slice A2 m.wishes.length c2) (.slice A3 m.filters.length c3)))] w4 := by rw [ho]; exact O4
      refine then_normal ?_
      refine rl ?_
      refine wpList_cut 4 (fun a' w' => ∃ b, textOk m.client 0 23 = b ∧ Has a' 289 [(1, .pointer (some ⟨w.heap.size, 0, none⟩)), (3, .pointer (some ⟨w1.heap.size, 0, none⟩)), (41, .bool b)] ∧ Own w w.heap.size [(w1.heap.size, (mqCells (onlyOf m) nilV nilV nilV)), (w.heap.size, (mqCells m (.slice A1 m.codes.length c1) (.slice A2 m.wishes.length c2) (.slice A3 m.filters.length c3)))] w') ?_ ?_
      · skip
        refine H13.ms 1 fun a14 H14 => ?_
        refine H14.ld 0 (O4.ls 1 1) fun a15 H15 => ?_
        refine H15.cl (belowC (refTextV m.client hF.client 0 23 _ (hW.below O4.bel))) ?_
        rintro a16 _ w5 ⟨rfl, hb⟩ H16
        have O5 := O4.call hb
        clear hb
        refine H16.ms 1 fun a17 H17 => ?_
        exact nt ⟨_, by rfl, H17.keep ⟨rfl, rfl, rfl, trivial⟩, O5⟩
      rintro a14 w5 ⟨v41, q41, H14, O5⟩
      refine wpList_cut 5 (fun a' w' => ∃ b, (textOk m.client 0 23 && inRB m.keep 0 65535) = b ∧ Has a' 289 [(1, .pointer (some ⟨w.heap.size, 0, none⟩)), (3, .pointer (some ⟨w1.heap.size, 0, none⟩)), (46, .bool b)] ∧ Own w w.heap.size [(w1.heap.size, (mqCells (onlyOf m) nilV nilV nilV)), (w.heap.size, (mqCells m (.slice A1 m.codes.length c1) (.slice A2 m.wishes.length c2) (.slice A3 m.filters.length c3)))] w') ?_ ?_
      · skip
        cases v41 with
        | false =>
          refine H14.offs 3 rfl ?_
          intro a15 H15
          refine H15.pick gz rfl rfl rfl rfl rfl ?_
          intro a16 H16
          refine H16.ms 1 fun a17 H17 => ?_
          exact nt ⟨_, by rw [q41] <;> rfl, H17.keep ⟨rfl, rfl, rfl, trivial⟩, O5⟩
        | true =>
          refine H14.field (H14.wt rfl rfl rfl) rfl rfl rfl rfl field_3 ?_
          intro a15 H15
          refine H15.load (H15.wt rfl rfl rfl) rfl rfl rfl rfl (load1_i _ _ _ _ ((O5.get 1 rfl).get 3 _ rfl)) ?_
          intro a16 H16
          refine H16.call (H16.wt rfl rfl rfl) rfl rfl rfl rfl (fun _ _ => by kernel_rfl) (quietC (refNumB m.keep 65535 _)) ?_
          rintro a17 _ _ ⟨rfl, rfl⟩ H17
          refine H17.pick gz rfl rfl rfl rfl rfl ?_
          intro a18 H18
          refine H18.ms 1 fun a19 H19 => ?_
          exact nt ⟨_, by rw [q41] <;> rfl, H19.keep ⟨rfl, rfl, rfl, trivial⟩, O5⟩
      rintro a15 w6 ⟨v46, q46, H15, O6⟩
      refine wpList_cut 5 (fun a' w' => ∃ b, ((textOk m.client 0 23 && inRB m.keep 0 65535) && willB2 m.won m.wt m.wp m.wq m.wr) = b ∧ Has a' 289 [(1, .pointer (some ⟨w.heap.size, 0, none⟩)), (3, .pointer (some ⟨w1.heap.size, 0, none⟩)), (51, .bool b)] ∧ Own w w.heap.size [(w1.heap.size, (mqCells (onlyOf m) nilV nilV nilV)), (w.heap.size, (mqCells m (.slice A1 m.codes.length c1) (.slice A2 m.wishes.length c2) (.slice A3 m.filters.length c3)))] w') ?_ ?_
      · skip
        cases v46 with
        | false =>
          refine H15.offs 3 rfl ?_
          intro a16 H16
          refine H16.pick gz rfl rfl rfl rfl rfl ?_
          intro a17 H17
          refine H17.ms 1 fun a18 H18 => ?_
          exact nt ⟨_, by rw [q46] <;> rfl, H18.keep ⟨rfl, rfl, rfl, trivial⟩, O6⟩
        | true =>
          refine H15.field (H15.wt rfl rfl rfl) rfl rfl rfl rfl field_4 ?_
          intro a16 H16
          refine H16.load (H16.wt rfl rfl rfl) rfl rfl rfl rfl (load_will _ _ _ _ _ _ _ _ (O6.get 1 rfl) rfl rfl rfl rfl rfl) ?_
          intro a17 H17
          refine H17.call (H17.wt rfl rfl rfl) rfl rfl rfl rfl (fun _ _ => by kernel_rfl) (belowC (refWillV m.won m.wt m.wp m.wq m.wr hF.wt _ (hW.below O6.bel))) ?_
          rintro a18 _ w7 ⟨rfl, hb⟩ H18
          have O7 := O6.call hb
          clear hb
          refine H18.pick gz rfl rfl rfl rfl rfl ?_
          intro a19 H19
          refine H19.ms 1 fun a20 H20 => ?_
          exact nt ⟨_, by rw [q46] <;> rfl, H20.keep ⟨rfl, rfl, rfl, trivial⟩, O7⟩
      rintro a16 w7 ⟨v51, q51, H16, O7⟩
      refine wpList_cut 5 (fun a' w' => ∃ b, (((textOk m.client 0 23 && inRB m.keep 0 65535) && willB2 m.won m.wt m.wp m.wq m.wr) && textOk m.user 0 64) = b ∧ Has a' 289 [(1, .pointer (some ⟨w.heap.size, 0, none⟩)), (3, .pointer (some ⟨w1.heap.size, 0, none⟩)), (56, .bool b)] ∧ Own w w.heap.size [(w1.heap.size, (mqCells (onlyOf m) nilV nilV nilV)), (w.heap.size, (mqCells m (.slice A1 m.codes.length c1) (.slice A2 m.wishes.length c2) (.slice A3 m.filters.length c3)))] w') ?_ ?_
      · skip
        cases v51 with
        | false =>
          refine H16.offs 3 rfl ?_
          intro a17 H17
          refine H17.pick gz rfl rfl rfl rfl rfl ?_
          intro a18 H18
          refine H18.ms 1 fun a19 H19 => ?_
          exact nt ⟨_, by rw [q51] <;> rfl, H19.keep ⟨rfl, rfl, rfl, trivial⟩, O7⟩
        | true =>
          refine H16.field (H16.wt rfl rfl rfl) rfl rfl rfl rfl field_5 ?_
          intro a17 H17
          refine H17.load (H17.wt rfl rfl rfl) rfl rfl rfl rfl (load1_s _ _ _ _ ((O7.get 1 rfl).get 9 _ rfl)) ?_
          intro a18 H18
          refine H18.call (H18.wt rfl rfl rfl) rfl rfl rfl rfl (fun _ _ => by kernel_rfl) (belowC (refTextV m.user hF.user 0 64 _ (hW.below O7.bel))) ?_
          rintro a19 _ w8 ⟨rfl, hb⟩ H19
          have O8 := O7.call hb
          clear hb
          refine H19.pick gz rfl rfl rfl rfl rfl ?_
          intro a20 H20
          refine H20.ms 1 fun a21 H21 => ?_
          exact nt ⟨_, by rw [q51] <;> rfl, H21.keep ⟨rfl, rfl, rfl, trivial⟩, O8⟩
      rintro a17 w8 ⟨v56, q56, H17, O8⟩
      refine wpList_cut 14 (fun a' w' => ∃ b, ((((textOk m.client 0 23 && inRB m.keep 0 65535) && willB2 m.won m.wt m.wp m.wq m.wr) && textOk m.user 0 64) && (m.hu || (emp m.user && !m.hp))) = b ∧ Has a' 289 [(1, .pointer (some ⟨w.heap.size, 0, none⟩)), (3, .pointer (some ⟨w1.heap.size, 0, none⟩)), (70, .bool b)] ∧ Own w w.heap.size [(w1.heap.size, (mqCells (onlyOf m) nilV nilV nilV)), (w.heap.size, (mqCells m (.slice A1 m.codes.length c1) (.slice A2 m.wishes.length c2) (.slice A3 m.filters.length c3)))] w') ?_ ?_
      · skip
        cases v56 with
        | false =>
          refine H17.offs 12 rfl ?_
          intro a18 H18
          refine H18.pick gz rfl rfl rfl rfl rfl ?_
          intro a19 H19
          refine H19.ms 1 fun a20 H20 => ?_
          exact nt ⟨_, by rw [q56] <;> rfl, H20.keep ⟨rfl, rfl, rfl, trivial⟩, O8⟩
        | true =>
          refine H17.field (H17.wt rfl rfl rfl) rfl rfl rfl rfl field_6 ?_
          intro a18 H18
          refine H18.load (H18.wt rfl rfl rfl) rfl rfl rfl rfl (load1_b _ _ _ _ ((O8.get 1 rfl).get 10 _ rfl)) ?_
          intro a19 H19
          refine H19.move (H19.wt rfl rfl rfl) (.inl rfl) rfl rfl rfl ?_
          intro a20 H20
          obtain ⟨v59, q59⟩ : ∃ b, m.hu = b := ⟨_, rfl⟩
          rw [q59] at H20
          cases v59 with
          | false =>
            refine H20.field (H20.wt rfl rfl rfl) rfl rfl rfl rfl field_5 ?_
            intro a21 H21
            refine H21.load (H21.wt rfl rfl rfl) rfl rfl rfl rfl (load1_s _ _ _ _ ((O8.get 1 rfl).get 9 _ rfl)) ?_
            intro a22 H22
            refine H22.bin (H22.wt rfl rfl rfl) rfl rfl rfl rfl rfl (eql_e _ _ _ _) ?_
            intro a23 H23
            refine H23.move (H23.wt rfl rfl rfl) (.inl rfl) rfl rfl rfl ?_
            intro a24 H24
            obtain ⟨v63, q63⟩ : ∃ b, emp m.user = b := ⟨_, rfl⟩
            rw [q63] at H24
            cases v63 with
            | false =>
              refine H24.offs 3 rfl ?_
              intro a25 H25
              refine H25.pick (H25.wt rfl rfl rfl) rfl rfl rfl rfl rfl ?_
              intro a26 H26
              refine H26.pick (H26.wt rfl rfl rfl) rfl rfl rfl rfl rfl ?_
              intro a27 H27
              refine H27.pick gz rfl rfl rfl rfl rfl ?_
              intro a28 H28
              refine H28.ms 1 fun a29 H29 => ?_
              exact nt ⟨_, by rw [q56, q59, q63] <;> rfl, H29.keep ⟨rfl, rfl, rfl, trivial⟩, O8⟩
            | true =>
              refine H24.field (H24.wt rfl rfl rfl) rfl rfl rfl rfl field_8 ?_
              intro a25 H25
              refine H25.load (H25.wt rfl rfl rfl) rfl rfl rfl rfl (load1_b _ _ _ _ ((O8.get 1 rfl).get 12 _ rfl)) ?_
              intro a26 H26
              refine H26.un (H26.wt rfl rfl rfl) rfl rfl rfl rfl rfl ?_
              intro a27 H27
              refine H27.pick (H27.wt rfl rfl rfl) rfl rfl rfl rfl rfl ?_
              intro a28 H28
              refine H28.pick (H28.wt rfl rfl rfl) rfl rfl rfl rfl rfl ?_
              intro a29 H29
              refine H29.pick gz rfl rfl rfl rfl rfl ?_
              intro a30 H30
              refine H30.ms 1 fun a31 H31 => ?_
              exact nt ⟨_, by rw [q56, q59, q63] <;> rfl, H31.keep ⟨rfl, rfl, rfl, trivial⟩, O8⟩
          | true =>
            refine H20.offs 8 rfl ?_
            intro a21 H21
            refine H21.pick (H21.wt rfl rfl rfl) rfl rfl rfl rfl rfl ?_
            intro a22 H22
            refine H22.pick gz rfl rfl rfl rfl rfl ?_
            intro a23 H23
            refine H23.ms 1 fun a24 H24 => ?_
            exact nt ⟨_, by rw [q56, q59] <;> rfl, H24.keep ⟨rfl, rfl, rfl, trivial⟩, O8⟩
      rintro a18 w9 ⟨v70, q70, H18, O9⟩
      refine wpList_cut 6 (fun a' w' => ∃ b, (((((textOk m.client 0 23 && inRB m.keep 0 65535) && willB2 m.won m.wt m.wp m.wq m.wr) && textOk m.user 0 64) && (m.hu || (emp m.user && !m.hp))) && decide ((m.pass.size : Int) ≤ 64)) = b ∧ Has a' 289 [(1, .pointer (some ⟨w.heap.size, 0, none⟩)), (3, .pointer (some ⟨w1.heap.size, 0, none⟩)), (76, .bool b)] ∧ Own w w.heap.size [(w1.heap.size, (mqCells (onlyOf m) nilV nilV nilV)), (w.heap.size, (mqCells m (.slice A1 m.codes.length c1) (.slice A2 m.wishes.length c2) (.slice A3 m.filters.length c3)))] w') ?_ ?_
      · skip
        cases v70 with
        | false =>
          refine H18.offs 4 rfl ?_
          intro a19 H19
          refine H19.pick gz rfl rfl rfl rfl rfl ?_
          intro a20 H20
          refine H20.ms 1 fun a21 H21 => ?_
          exact nt ⟨_, by rw [q70] <;> rfl, H21.keep ⟨rfl, rfl, rfl, trivial⟩, O9⟩
        | true =>
          refine H18.field (H18.wt rfl rfl rfl) rfl rfl rfl rfl field_7 ?_
          intro a19 H19
          refine H19.load (H19.wt rfl rfl rfl) rfl rfl rfl rfl (load1_s _ _ _ _ ((O9.get 1 rfl).get 11 _ rfl)) ?_
          intro a20 H20
          refine H20.lenS (H20.wt rfl rfl rfl) rfl rfl rfl rfl Tryd.underlying9 ?_
          intro a21 H21
          refine H21.bin (H21.wt rfl rfl rfl) rfl rfl rfl rfl rfl (leq_i _ _ _ rfl _ _ _) ?_
          intro a22 H22
          refine H22.pick gz rfl rfl rfl rfl rfl ?_
          intro a23 H23
          refine H23.ms 1 fun a24 H24 => ?_
          exact nt ⟨_, by rw [q70] <;> rfl, H24.keep ⟨rfl, rfl, rfl, trivial⟩, O9⟩
      rintro a19 w10 ⟨v76, q76, H19, O10⟩
      refine wpList_cut 8 (fun a' w' => ∃ b, ((((((textOk m.client 0 23 && inRB m.keep 0 65535) && willB2 m.won m.wt m.wp m.wq m.wr) && textOk m.user 0 64) && (m.hu || (emp m.user && !m.hp))) && decide ((m.pass.size : Int) ≤ 64)) && (m.hp || emp m.pass)) = b ∧ Has a' 289 [(1, .pointer (some ⟨w.heap.size, 0, none⟩)), (3, .pointer (some ⟨w1.heap.size, 0, none⟩)), (84, .bool b)] ∧ Own w w.heap.size [(w1.heap.size, (mqCells (onlyOf m) nilV nilV nilV)), (w.heap.size, (mqCells m (.slice A1 m.codes.length c1) (.slice A2 m.wishes.length c2) (.slice A3 m.filters.length c3)))] w') ?_ ?_
      · skip
        cases v76 with
        | false =>
          refine H19.offs 7 rfl ?_
          intro a20 H20
          refine H20.pick gz rfl rfl rfl rfl rfl ?_
          intro a21 H21
          exact nt ⟨_, by rw [q76] <;> rfl, H21.keep ⟨rfl, rfl, rfl, trivial⟩, O10⟩
        | true =>
          refine H19.field (H19.wt rfl rfl rfl) rfl rfl rfl rfl field_8 ?_
          intro a20 H20
          refine H20.load (H20.wt rfl rfl rfl) rfl rfl rfl rfl (load1_b _ _ _ _ ((O10.get 1 rfl).get 12 _ rfl)) ?_
          intro a21 H21
          refine H21.move (H21.wt rfl rfl rfl) (.inl rfl) rfl rfl rfl ?_
          intro a22 H22
          obtain ⟨v79, q79⟩ : ∃ b, m.hp = b := ⟨_, rfl⟩
          rw [q79] at H22
          cases v79 with
          | false =>
            refine H22.field (H22.wt rfl rfl rfl) rfl rfl rfl rfl field_7 ?_
            intro a23 H23
            refine H23.load (H23.wt rfl rfl rfl) rfl rfl rfl rfl (load1_s _ _ _ _ ((O10.get 1 rfl).get 11 _ rfl)) ?_
            intro a24 H24
            refine H24.bin (H24.wt rfl rfl rfl) rfl rfl rfl rfl rfl (eql_e _ _ _ _) ?_
            intro a25 H25
            refine H25.pick (H25.wt rfl rfl rfl) rfl rfl rfl rfl rfl ?_
            intro a26 H26
            refine H26.pick gz rfl rfl rfl rfl rfl ?_
            intro a27 H27
            exact nt ⟨_, by rw [q76, q79] <;> rfl, H27.keep ⟨rfl, rfl, rfl, trivial⟩, O10⟩
          | true =>
            refine H22.offs 3 rfl ?_
            intro a23 H23
            refine H23.pick (H23.wt rfl rfl rfl) rfl rfl rfl rfl rfl ?_
            intro a24 H24
            refine H24.pick gz rfl rfl rfl rfl rfl ?_
            intro a25 H25
            exact nt ⟨_, by rw [q76, q79] <;> rfl, H25.keep ⟨rfl, rfl, rfl, trivial⟩, O10⟩
      rintro a20 w11 ⟨v84, q84, H20, O11⟩
      refine H20.ms 1 fun a21 H21 => ?_
      refine wpList_nil ?_
      refine block_normal ?_
      refine then_normal ?_
      exact ⟨nilV, nilV, nilV, (by rw [hq, show connectOk m = v84 from (conn7 _ _ _ _ _ _ _).symm.trans q84]; exact H21.keep ⟨rfl, rfl, rfl, trivial⟩), MqL.nil (by rw [ho] <;> rfl) (by rw [ho] <;> rfl) (by rw [ho] <;> rfl), O11⟩
    | false =>
      have k1 : ¬ m.kind = 1 := by simpa using h1
      refine rl ?_
      refine H10.bn 1 (eql_iB _ _ _ h1 _ _ _) fun a12 H12 => nt ?_
      refine H12.condF rfl ?_
      obtain ⟨b2, h2⟩ : ∃ b, (m.kind == 2) = b := ⟨_, rfl⟩
      cases b2 with
      | true =>
        have k2 : m.kind = 2 := by simpa using h2
        refine rl ?_
        refine H12.bn 1 (eql_iB _ _ _ h2 _ _ _) fun a14 H14 => nt ?_
        refine H14.condT rfl ?_
        have ho : onlyOf m = { mq0 m.kind with present := m.present, code := m.code } := by unfold onlyOf; rw [if_neg k1, if_pos k2]
        have hq : okOf m = (inRB m.code 0 5 && (!m.present || m.code == 0)) := by unfold okOf; rw [if_neg k1, if_pos k2]
        repeat (refine wp_seq ?_)
        refine H14.ds O3 0 [1, 3, 4] rfl [ec 0 87 (.pointer (some ⟨w.heap.size, 13, none⟩)), ec 1 88 (.bool m.present), ec 2 89 (.pointer (some ⟨w.heap.size, 14, none⟩)), ec 3 90 (.int .i64 m.code), ec 4 91 (.pointer (some ⟨w1.heap.size, 13, none⟩)), ec 6 92 (.pointer (some ⟨w1.heap.size, 14, none⟩))] [⟨7, 14, [(.int .i64 m.code)]⟩, ⟨5, 13, [(.bool m.present)]⟩] rfl rfl ⟨jm, jl fun _ ⟨_, _, h⟩ => load1_b _ _ _ _ ((h.get 1 rfl).get 13 _ rfl), jm, jl fun _ ⟨_, _, h⟩ => load1_i _ _ _ _ ((h.get 1 rfl).get 14 _ rfl), jm, jm, trivial⟩ ⟨q1 fun _ u h f => store1_i _ _ _ u _ h f, q1 fun _ u h f => store1_b _ _ _ u _ h f, trivial⟩ ?_
        intro a15 w4 H15 O4
        have O4 : Own w w.heap.size [(w1.heap.size, (mqCells (onlyOf m) nilV nilV nilV)), (w.heap.size, (mqCells m (.slice A1 m.codes.length c1) (.slice A2 m.wishes.length c2) (.slice A3 m.filters.length c3)))] w4 := by rw [ho]; exact O4
        refine then_normal ?_
        refine rl ?_
        refine wpList_cut 4 (fun a' w' => ∃ b, inRB m.code 0 5 = b ∧ Has a' 289 [(1, .pointer (some ⟨w.heap.size, 0, none⟩)), (3, .pointer (some ⟨w1.heap.size, 0, none⟩)), (96, .bool b)] ∧ Own w w.heap.size [(w1.heap.size, (mqCells (onlyOf m) nilV nilV nilV)), (w.heap.size, (mqCells m (.slice A1 m.codes.length c1) (.slice A2 m.wishes.length c2) (.slice A3 m.filters.length c3)))] w') ?_ ?_
        · skip
          refine H15.ms 1 fun a16 H16 => ?_
          refine H16.ld 0 (O4.li 1 14) fun a17 H17 => ?_
          refine H17.cq 1 (refNumB m.code 5 _) fun a19 H19 => ?_
          exact nt ⟨_, by rfl, H19.keep ⟨rfl, rfl, rfl, trivial⟩, O4⟩
        rintro a16 w5 ⟨v96, q96, H16, O5⟩
        refine wpList_cut 9 (fun a' w' => ∃ b, (inRB m.code 0 5 && ((m.code == 0) || !m.present)) = b ∧ Has a' 289 [(1, .pointer (some ⟨w.heap.size, 0, none⟩)), (3, .pointer (some ⟨w1.heap.size, 0, none⟩)), (105, .bool b)] ∧ Own w w.heap.size [(w1.heap.size, (mqCells (onlyOf m) nilV nilV nilV)), (w.heap.size, (mqCells m (.slice A1 m.codes.length c1) (.slice A2 m.wishes.length c2) (.slice A3 m.filters.length c3)))] w') ?_ ?_
        · skip
          cases v96 with
          | false =>
            refine H16.offs 8 rfl ?_
            intro a17 H17
            refine H17.pick gz rfl rfl rfl rfl rfl ?_
            intro a18 H18
            exact nt ⟨_, by rw [q96] <;> rfl, H18.keep ⟨rfl, rfl, rfl, trivial⟩, O5⟩
          | true =>
            refine H16.field (H16.wt rfl rfl rfl) rfl rfl rfl rfl field_10 ?_
            intro a17 H17
            refine H17.load (H17.wt rfl rfl rfl) rfl rfl rfl rfl (load1_i _ _ _ _ ((O5.get 1 rfl).get 14 _ rfl)) ?_
            intro a18 H18
            refine H18.bin (H18.wt rfl rfl rfl) rfl rfl rfl rfl rfl (eql_i _ _ _ _ _) ?_
            intro a19 H19
            refine H19.move (H19.wt rfl rfl rfl) (.inl rfl) rfl rfl rfl ?_
            intro a20 H20
            obtain ⟨v100, q100⟩ : ∃ b, (m.code == 0) = b := ⟨_, rfl⟩
            rw [q100] at H20
            cases v100 with
            | false =>
              refine H20.field (H20.wt rfl rfl rfl) rfl rfl rfl rfl field_9 ?_
              intro a21 H21
              refine H21.load (H21.wt rfl rfl rfl) rfl rfl rfl rfl (load1_b _ _ _ _ ((O5.get 1 rfl).get 13 _ rfl)) ?_
              intro a22 H22
              refine H22.un (H22.wt rfl rfl rfl) rfl rfl rfl rfl rfl ?_
              intro a23 H23
              refine H23.pick (H23.wt rfl rfl rfl) rfl rfl rfl rfl rfl ?_
              intro a24 H24
              refine H24.pick gz rfl rfl rfl rfl rfl ?_
              intro a25 H25
              exact nt ⟨_, by rw [q96, q100] <;> rfl, H25.keep ⟨rfl, rfl, rfl, trivial⟩, O5⟩
            | true =>
              refine H20.offs 3 rfl ?_
              intro a21 H21
              refine H21.pick (H21.wt rfl rfl rfl) rfl rfl rfl rfl rfl ?_
              intro a22 H22
              refine H22.pick gz rfl rfl rfl rfl rfl ?_
              intro a23 H23
              exact nt ⟨_, by rw [q96, q100] <;> rfl, H23.keep ⟨rfl, rfl, rfl, trivial⟩, O5⟩
        rintro a17 w6 ⟨v105, q105, H17, O6⟩
        refine H17.ms 1 fun a18 H18 => ?_
        refine wpList_nil ?_
        refine block_normal ?_
        refine then_normal ?_
        exact ⟨nilV, nilV, nilV, (by rw [hq, show (inRB m.code 0 5 && (!m.present || m.code == 0)) = v105 from (by rw [Bool.or_comm (!m.present)]; exact q105)]; exact H18.keep ⟨rfl, rfl, rfl, trivial⟩), MqL.nil (by rw [ho] <;> rfl) (by rw [ho] <;> rfl) (by rw [ho] <;> rfl), O6⟩
      | false =>
        have k2 : ¬ m.kind = 2 := by simpa using h2
        refine rl ?_
        refine H12.bn 1 (eql_iB _ _ _ h2 _ _ _) fun a14 H14 => nt ?_
        refine H14.condF rfl ?_
        obtain ⟨b3, h3⟩ : ∃ b, (m.kind == 3) = b := ⟨_, rfl⟩
        cases b3 with
        | true =>
          have k3 : m.kind = 3 := by simpa using h3
          refine rl ?_
          refine H14.bn 1 (eql_iB _ _ _ h3 _ _ _) fun a16 H16 => nt ?_
          refine H16.condT rfl ?_
          have ho : onlyOf m = { mq0 m.kind with topic := m.topic, qos := m.qos, dup := m.dup, retain := m.retain, id := m.id, payload := m.payload } := by unfold onlyOf; rw [if_neg k1, if_neg k2, if_pos k3]
          have hq : okOf m = publishOk m := by unfold okOf; rw [if_neg k1, if_neg k2, if_pos k3]
          repeat (refine wp_seq ?_)
          refine H16.ds O3 0 [1, 3, 4] rfl [ec 0 108 (.pointer (some ⟨w.heap.size, 19, none⟩)), ec 1 109 (.string m.topic), ec 2 110 (.pointer (some ⟨w.heap.size, 17, none⟩)), ec 3 111 (.int .i64 m.qos), ec 4 112 (.pointer (some ⟨w.heap.size, 16, none⟩)), ec 5 113 (.bool m.dup), ec 6 114 (.pointer (some ⟨w.heap.size, 18, none⟩)), ec 7 115 (.bool m.retain), ec 8 116 (.pointer (some ⟨w.heap.size, 20, none⟩)), ec 9 117 (.int .i64 m.id), ec 10 118 (.pointer (some ⟨w.heap.size, 21, none⟩)), ec 11 119 (.string m.payload), ec 12 120 (.pointer (some ⟨w1.heap.size, 19, none⟩)), ec 14 121 (.pointer (some ⟨w1.heap.size, 17, none⟩)), ec 16 122 (.pointer (some ⟨w1.heap.size, 16, none⟩)), ec 18 123 (.pointer (some ⟨w1.heap.size, 18, none⟩)), ec 20 124 (.pointer (some ⟨w1.heap.size, 20, none⟩)), ec 22 125 (.pointer (some ⟨w1.heap.size, 21, none⟩))] [⟨23, 21, [(.string m.payload)]⟩, ⟨21, 20, [(.int .i64 m.id)]⟩, ⟨19, 18, [(.bool m.retain)]⟩, ⟨17, 16, [(.bool m.dup)]⟩, ⟨15, 17, [(.int .i64 m.qos)]⟩, ⟨13, 19, [(.string m.topic)]⟩] rfl rfl ⟨jm, jl fun _ ⟨_, _, h⟩ => load1_s _ _ _ _ ((h.get 1 rfl).get 19 _ rfl), jm, jl fun _ ⟨_, _, h⟩ => load1_i _ _ _ _ ((h.get 1 rfl).get 17 _ rfl), jm, jl fun _ ⟨_, _, h⟩ => load1_b _ _ _ _ ((h.get 1 rfl).get 16 _ rfl), jm, jl fun _ ⟨_, _, h⟩ => load1_b _ _ _ _ ((h.get 1 rfl).get 18 _ rfl), jm, jl fun _ ⟨_, _, h⟩ => load1_i _ _ _ _ ((h.get 1 rfl).get 20 _ rfl), jm, jl fun _ ⟨_, _, h⟩ => load1_s _ _ _ _ ((h.get 1 rfl).get 21 _ rfl), jm, jm, jm, jm, jm, jm, trivial⟩ ⟨q1 fun _ u h f => store1_s _ _ _ u _ h f, q1 fun _ u h f => store1_i _ _ _ u _ h f, q1 fun _ u h f => store1_b _ _ _ u _ h f, q1 fun _ u h f => store1_b _ _ _ u _ h f, q1 fun _ u h f => store1_i _ _ _ u _ h f, q1 fun _ u h f => store1_s _ _ _ u _ h f, trivial⟩ ?_
          intro a17 w4 H17 O4
          have O4 : Own w w.heap.size [(w1.heap.size, (mqCells (onlyOf m) nilV nilV nilV)), (w.heap.size, (mqCells m (.slice A1 m.codes.length c1) (.slice A2 m.wishes.length c2) (.slice A3 m.filters.length c3)))] w4 := by rw [ho]; exact O4
          refine then_normal ?_
          refine rl ?_
          refine wpList_cut 4 (fun a' w' => ∃ b, textOk m.topic 1 64 = b ∧ Has a' 289 [(1, .pointer (some ⟨w.heap.size, 0, none⟩)), (3, .pointer (some ⟨w1.heap.size, 0, none⟩)), (129, .bool b)] ∧ Own w w.heap.size [(w1.heap.size, (mqCells (onlyOf m) nilV nilV nilV)), (w.heap.size, (mqCells m (.slice A1 m.codes.length c1) (.slice A2 m.wishes.length c2) (.slice A3 m.filters.length c3)))] w') ?_ ?_
          · skip
            refine H17.ms 1 fun a18 H18 => ?_
            refine H18.ld 0 (O4.ls 1 19) fun a19 H19 => ?_
            refine H19.cl (belowC (refTextV m.topic hF.topic 1 64 _ (hW.below O4.bel))) ?_
            rintro a20 _ w5 ⟨rfl, hb⟩ H20
            have O5 := O4.call hb
            clear hb
            refine H20.ms 1 fun a21 H21 => ?_
            exact nt ⟨_, by rfl, H21.keep ⟨rfl, rfl, rfl, trivial⟩, O5⟩
          rintro a18 w5 ⟨v129, q129, H18, O5⟩
          refine wpList_cut 5 (fun a' w' => ∃ b, (textOk m.topic 1 64 && plainOf (sb m.topic)) = b ∧ Has a' 289 [(1, .pointer (some ⟨w.heap.size, 0, none⟩)), (3, .pointer (some ⟨w1.heap.size, 0, none⟩)), (134, .bool b)] ∧ Own w w.heap.size [(w1.heap.size, (mqCells (onlyOf m) nilV nilV nilV)), (w.heap.size, (mqCells m (.slice A1 m.codes.length c1) (.slice A2 m.wishes.length c2) (.slice A3 m.filters.length c3)))] w') ?_ ?_
          · skip
            cases v129 with
            | false =>
              refine H18.offs 3 rfl ?_
              intro a19 H19
              refine H19.pick gz rfl rfl rfl rfl rfl ?_
              intro a20 H20
              refine H20.ms 1 fun a21 H21 => ?_
              exact nt ⟨_, by rw [q129] <;> rfl, H21.keep ⟨rfl, rfl, rfl, trivial⟩, O5⟩
            | true =>
              refine H18.field (H18.wt rfl rfl rfl) rfl rfl rfl rfl field_15 ?_
              intro a19 H19
              refine H19.load (H19.wt rfl rfl rfl) rfl rfl rfl rfl (load1_s _ _ _ _ ((O5.get 1 rfl).get 19 _ rfl)) ?_
              intro a20 H20
              refine H20.call (H20.wt rfl rfl rfl) rfl rfl rfl rfl (fun _ _ => by kernel_rfl) (quietC (refPlain m.topic hF.topic _)) ?_
              rintro a21 _ _ ⟨rfl, rfl⟩ H21
              refine H21.pick gz rfl rfl rfl rfl rfl ?_
              intro a22 H22
              refine H22.ms 1 fun a23 H23 => ?_
              exact nt ⟨_, by rw [q129] <;> rfl, H23.keep ⟨rfl, rfl, rfl, trivial⟩, O5⟩
          rintro a19 w6 ⟨v134, q134, H19, O6⟩
          refine wpList_cut 5 (fun a' w' => ∃ b, ((textOk m.topic 1 64 && plainOf (sb m.topic)) && inRB m.qos 0 2) = b ∧ Has a' 289 [(1, .pointer (some ⟨w.heap.size, 0, none⟩)), (3, .pointer (some ⟨w1.heap.size, 0, none⟩)), (139, .bool b)] ∧ Own w w.heap.size [(w1.heap.size, (mqCells (onlyOf m) nilV nilV nilV)), (w.heap.size, (mqCells m (.slice A1 m.codes.length c1) (.slice A2 m.wishes.length c2) (.slice A3 m.filters.length c3)))] w') ?_ ?_
          · skip
            cases v134 with
            | false =>
              refine H19.offs 3 rfl ?_
              intro a20 H20
              refine H20.pick gz rfl rfl rfl rfl rfl ?_
              intro a21 H21
              refine H21.ms 1 fun a22 H22 => ?_
              exact nt ⟨_, by rw [q134] <;> rfl, H22.keep ⟨rfl, rfl, rfl, trivial⟩, O6⟩
            | true =>
              refine H19.field (H19.wt rfl rfl rfl) rfl rfl rfl rfl field_13 ?_
              intro a20 H20
              refine H20.load (H20.wt rfl rfl rfl) rfl rfl rfl rfl (load1_i _ _ _ _ ((O6.get 1 rfl).get 17 _ rfl)) ?_
              intro a21 H21
              refine H21.call (H21.wt rfl rfl rfl) rfl rfl rfl rfl (fun _ _ => by kernel_rfl) (quietC (refNumB m.qos 2 _)) ?_
              rintro a22 _ _ ⟨rfl, rfl⟩ H22
              refine H22.pick gz rfl rfl rfl rfl rfl ?_
              intro a23 H23
              refine H23.ms 1 fun a24 H24 => ?_
              exact nt ⟨_, by rw [q134] <;> rfl, H24.keep ⟨rfl, rfl, rfl, trivial⟩, O6⟩
          rintro a20 w7 ⟨v139, q139, H20, O7⟩
          refine wpList_cut 5 (fun a' w' => ∃ b, (((textOk m.topic 1 64 && plainOf (sb m.topic)) && inRB m.qos 0 2) && decide ((m.payload.size : Int) ≤ 128)) = b ∧ Has a' 289 [(1, .pointer (some ⟨w.heap.size, 0, none⟩)), (3, .pointer (some ⟨w1.heap.size, 0, none⟩)), (144, .bool b)] ∧ Own w w.heap.size [(w1.heap.size, (mqCells (onlyOf m) nilV nilV nilV)), (w.heap.size, (mqCells m (.slice A1 m.codes.length c1) (.slice A2 m.wishes.length c2) (.slice A3 m.filters.length c3)))] w') ?_ ?_
          · skip
            cases v139 with
            | false =>
              refine H20.offs 4 rfl ?_
              intro a21 H21
              refine H21.pick gz rfl rfl rfl rfl rfl ?_
              intro a22 H22
              exact nt ⟨_, by rw [q139] <;> rfl, H22.keep ⟨rfl, rfl, rfl, trivial⟩, O7⟩
            | true =>
              refine H20.field (H20.wt rfl rfl rfl) rfl rfl rfl rfl field_17 ?_
              intro a21 H21
              refine H21.load (H21.wt rfl rfl rfl) rfl rfl rfl rfl (load1_s _ _ _ _ ((O7.get 1 rfl).get 21 _ rfl)) ?_
              intro a22 H22
              refine H22.lenS (H22.wt rfl rfl rfl) rfl rfl rfl rfl Tryd.underlying9 ?_
              intro a23 H23
              refine H23.bin (H23.wt rfl rfl rfl) rfl rfl rfl rfl rfl (leq_i _ _ _ rfl _ _ _) ?_
              intro a24 H24
              refine H24.pick gz rfl rfl rfl rfl rfl ?_
              intro a25 H25
              exact nt ⟨_, by rw [q139] <;> rfl, H25.keep ⟨rfl, rfl, rfl, trivial⟩, O7⟩
          rintro a21 w8 ⟨v144, q144, H21, O8⟩
          refine H21.ms 1 fun a22 H22 => nt ?_
          obtain ⟨bq0, hq0⟩ : ∃ b, (m.qos == 0) = b := ⟨_, rfl⟩
          cases bq0 with
          | true =>
            refine H22.rg 1 fun a23 H23 => ?_
            refine H23.ld 0 (O8.li 1 17) fun a24 H24 => ?_
            refine H24.bn 0 (eql_iB _ _ _ hq0 _ _ _) fun a25 H25 => nt ?_
            refine H25.condT rfl ?_
            refine rl ?_
            refine wpList_cut 7 (fun a' w' => ∃ b, ((((textOk m.topic 1 64 && plainOf (sb m.topic)) && inRB m.qos 0 2) && decide ((m.payload.size : Int) ≤ 128)) && !m.dup) = b ∧ Has a' 289 [(1, .pointer (some ⟨w.heap.size, 0, none⟩)), (3, .pointer (some ⟨w1.heap.size, 0, none⟩)), (154, .bool b)] ∧ Own w w.heap.size [(w1.heap.size, (mqCells (onlyOf m) nilV nilV nilV)), (w.heap.size, (mqCells m (.slice A1 m.codes.length c1) (.slice A2 m.wishes.length c2) (.slice A3 m.filters.length c3)))] w') ?_ ?_
            · skip
              refine H25.ms 2 fun a27 H27 => ?_
              cases v144 with
              | false =>
                refine H27.offs 3 rfl ?_
                intro a28 H28
                refine H28.pick gz rfl rfl rfl rfl rfl ?_
                intro a29 H29
                refine H29.ms 1 fun a30 H30 => ?_
                exact nt ⟨_, by rw [q144] <;> rfl, H30.keep ⟨rfl, rfl, rfl, trivial⟩, O8⟩
              | true =>
                refine H27.field (H27.wt rfl rfl rfl) rfl rfl rfl rfl field_12 ?_
                intro a28 H28
                refine H28.load (H28.wt rfl rfl rfl) rfl rfl rfl rfl (load1_b _ _ _ _ ((O8.get 1 rfl).get 16 _ rfl)) ?_
                intro a29 H29
                refine H29.un (H29.wt rfl rfl rfl) rfl rfl rfl rfl rfl ?_
                intro a30 H30
                refine H30.pick gz rfl rfl rfl rfl rfl ?_
                intro a31 H31
                refine H31.ms 1 fun a32 H32 => ?_
                exact nt ⟨_, by rw [q144] <;> rfl, H32.keep ⟨rfl, rfl, rfl, trivial⟩, O8⟩
            rintro a26 w9 ⟨v154, q154, H26, O9⟩
            refine wpList_cut 4 (fun a' w' => ∃ b, (((((textOk m.topic 1 64 && plainOf (sb m.topic)) && inRB m.qos 0 2) && decide ((m.payload.size : Int) ≤ 128)) && !m.dup) && (m.id == 0)) = b ∧ Has a' 289 [(1, .pointer (some ⟨w.heap.size, 0, none⟩)), (3, .pointer (some ⟨w1.heap.size, 0, none⟩)), (158, .bool b)] ∧ Own w w.heap.size [(w1.heap.size, (mqCells (onlyOf m) nilV nilV nilV)), (w.heap.size, (mqCells m (.slice A1 m.codes.length c1) (.slice A2 m.wishes.length c2) (.slice A3 m.filters.length c3)))] w') ?_ ?_
            · skip
              cases v154 with
              | false =>
                refine H26.offs 3 rfl ?_
                intro a27 H27
                refine H27.pick gz rfl rfl rfl rfl rfl ?_
                intro a28 H28
                exact nt ⟨_, by rw [q154] <;> rfl, H28.keep ⟨rfl, rfl, rfl, trivial⟩, O9⟩
              | true =>
                refine H26.field (H26.wt rfl rfl rfl) rfl rfl rfl rfl field_16 ?_
                intro a27 H27
                refine H27.load (H27.wt rfl rfl rfl) rfl rfl rfl rfl (load1_i _ _ _ _ ((O9.get 1 rfl).get 20 _ rfl)) ?_
                intro a28 H28
                refine H28.bin (H28.wt rfl rfl rfl) rfl rfl rfl rfl rfl (eql_i _ _ _ _ _) ?_
                intro a29 H29
                refine H29.pick gz rfl rfl rfl rfl rfl ?_
                intro a30 H30
                exact nt ⟨_, by rw [q154] <;> rfl, H30.keep ⟨rfl, rfl, rfl, trivial⟩, O9⟩
            rintro a27 w10 ⟨v158, q158, H27, O10⟩
            refine H27.ms 1 fun a28 H28 => ?_
            refine wpList_nil ?_
            refine block_normal ?_
            refine then_normal ?_
            exact ⟨nilV, nilV, nilV, (by rw [hq, show publishOk m = v158 from (pub_zero m hq0).trans q158]; exact H28.keep ⟨rfl, rfl, rfl, trivial⟩), MqL.nil (by rw [ho] <;> rfl) (by rw [ho] <;> rfl) (by rw [ho] <;> rfl), O10⟩
          | false =>
            refine H22.rg 1 fun a23 H23 => ?_
            refine H23.ld 0 (O8.li 1 17) fun a24 H24 => ?_
            refine H24.bn 0 (eql_iB _ _ _ hq0 _ _ _) fun a25 H25 => nt ?_
            refine H25.condF rfl ?_
            refine rl ?_
            refine wpList_cut 6 (fun a' w' => ∃ b, ((((textOk m.topic 1 64 && plainOf (sb m.topic)) && inRB m.qos 0 2) && decide ((m.payload.size : Int) ≤ 128)) && inRB m.id 1 65535) = b ∧ Has a' 289 [(1, .pointer (some ⟨w.heap.size, 0, none⟩)), (3, .pointer (some ⟨w1.heap.size, 0, none⟩)), (164, .bool b)] ∧ Own w w.heap.size [(w1.heap.size, (mqCells (onlyOf m) nilV nilV nilV)), (w.heap.size, (mqCells m (.slice A1 m.codes.length c1) (.slice A2 m.wishes.length c2) (.slice A3 m.filters.length c3)))] w') ?_ ?_
            · skip
              refine H25.ms 2 fun a27 H27 => ?_
              cases v144 with
              | false =>
                refine H27.offs 3 rfl ?_
                intro a28 H28
                refine H28.pick gz rfl rfl rfl rfl rfl ?_
                intro a29 H29
                exact nt ⟨_, by rw [q144] <;> rfl, H29.keep ⟨rfl, rfl, rfl, trivial⟩, O8⟩
              | true =>
                refine H27.field (H27.wt rfl rfl rfl) rfl rfl rfl rfl field_16 ?_
                intro a28 H28
                refine H28.load (H28.wt rfl rfl rfl) rfl rfl rfl rfl (load1_i _ _ _ _ ((O8.get 1 rfl).get 20 _ rfl)) ?_
                intro a29 H29
                refine H29.call (H29.wt rfl rfl rfl) rfl rfl rfl rfl (fun _ _ => by kernel_rfl) (quietC (refId m.id _)) ?_
                rintro a30 _ _ ⟨rfl, rfl⟩ H30
                refine H30.pick gz rfl rfl rfl rfl rfl ?_
                intro a31 H31
                exact nt ⟨_, by rw [q144] <;> rfl, H31.keep ⟨rfl, rfl, rfl, trivial⟩, O8⟩
            rintro a26 w9 ⟨v164, q164, H26, O9⟩
            refine H26.ms 1 fun a27 H27 => ?_
            refine wpList_nil ?_
            refine block_normal ?_
            refine then_normal ?_
            exact ⟨nilV, nilV, nilV, (by rw [hq, show publishOk m = v164 from (pub_more m hq0).trans q164]; exact H27.keep ⟨rfl, rfl, rfl, trivial⟩), MqL.nil (by rw [ho] <;> rfl) (by rw [ho] <;> rfl) (by rw [ho] <;> rfl), O9⟩
        | false =>
          have k3 : ¬ m.kind = 3 := by simpa using h3
          refine rl ?_
          refine H14.bn 1 (eql_iB _ _ _ h3 _ _ _) fun a16 H16 => nt ?_
          refine H16.condF rfl ?_
          refine wp_seq_join (fun a w' => ∃ b, idKind m.kind = b ∧ Has a 289 [(1, .pointer (some ⟨w.heap.size, 0, none⟩)), (3, .pointer (some ⟨w1.heap.size, 0, none⟩)), (4, .bool true), (11, .int .i64 m.kind), (165, .bool b)] ∧ Own w w.heap.size [(w1.heap.size, (mqCells (mq0 m.kind) nilV nilV nilV)), (w.heap.size, (mqCells m (.slice A1 m.codes.length c1) (.slice A2 m.wishes.length c2) (.slice A3 m.filters.length c3)))] w') ?_ ?_
          · skip
            obtain ⟨b4, h4⟩ : ∃ b, (m.kind == 4) = b := ⟨_, rfl⟩
            cases b4 with
            | true =>
              refine rl ?_
              refine H16.bn 1 (eql_iB _ _ _ h4 _ _ _) fun a18 H18 => nt ?_
              refine H18.condT rfl ?_
              refine skip_wp ?_
              refine then_normal ?_
              exact ⟨_, (by unfold idKind; rw [h4] <;> rfl), H18.keep ⟨rfl, rfl, rfl, rfl, rfl, trivial⟩, O3⟩
            | false =>
              refine rl ?_
              refine H16.bn 1 (eql_iB _ _ _ h4 _ _ _) fun a18 H18 => nt ?_
              refine H18.condF rfl ?_
              obtain ⟨b5, h5⟩ : ∃ b, (m.kind == 5) = b := ⟨_, rfl⟩
              cases b5 with
              | true =>
                refine rl ?_
                refine H18.bn 1 (eql_iB _ _ _ h5 _ _ _) fun a20 H20 => nt ?_
                refine H20.condT rfl ?_
                refine skip_wp ?_
                refine then_normal ?_
                exact ⟨_, (by unfold idKind; rw [h4, h5] <;> rfl), H20.keep ⟨rfl, rfl, rfl, rfl, rfl, trivial⟩, O3⟩
              | false =>
                refine rl ?_
                refine H18.bn 1 (eql_iB _ _ _ h5 _ _ _) fun a20 H20 => nt ?_
                refine H20.condF rfl ?_
                obtain ⟨b6, h6⟩ : ∃ b, (m.kind == 6) = b := ⟨_, rfl⟩
                cases b6 with
                | true =>
                  refine rl ?_
                  refine H20.bn 1 (eql_iB _ _ _ h6 _ _ _) fun a22 H22 => nt ?_
                  refine H22.condT rfl ?_
                  refine skip_wp ?_
                  refine then_normal ?_
                  exact ⟨_, (by unfold idKind; rw [h4, h5, h6] <;> rfl), H22.keep ⟨rfl, rfl, rfl, rfl, rfl, trivial⟩, O3⟩
                | false =>
                  refine rl ?_
                  refine H20.bn 1 (eql_iB _ _ _ h6 _ _ _) fun a22 H22 => nt ?_
                  refine H22.condF rfl ?_
                  obtain ⟨b7, h7⟩ : ∃ b, (m.kind == 7) = b := ⟨_, rfl⟩
                  cases b7 with
                  | true =>
                    refine rl ?_
                    refine H22.bn 1 (eql_iB _ _ _ h7 _ _ _) fun a24 H24 => nt ?_
                    refine H24.condT rfl ?_
                    refine skip_wp ?_
                    refine then_normal ?_
                    exact ⟨_, (by unfold idKind; rw [h4, h5, h6, h7] <;> rfl), H24.keep ⟨rfl, rfl, rfl, rfl, rfl, trivial⟩, O3⟩
                  | false =>
                    refine rl ?_
                    refine H22.bn 1 (eql_iB _ _ _ h7 _ _ _) fun a24 H24 => nt ?_
                    refine H24.condF rfl ?_
                    obtain ⟨b11, h11⟩ : ∃ b, (m.kind == 11) = b := ⟨_, rfl⟩
                    cases b11 with
                    | true =>
                      refine rl ?_
                      refine H24.bn 1 (eql_iB _ _ _ h11 _ _ _) fun a26 H26 => nt ?_
                      exact ⟨_, (by unfold idKind; rw [h4, h5, h6, h7, h11] <;> rfl), H26.keep ⟨rfl, rfl, rfl, rfl, rfl, trivial⟩, O3⟩
                    | false =>
                      refine rl ?_
                      refine H24.bn 1 (eql_iB _ _ _ h11 _ _ _) fun a26 H26 => nt ?_
                      exact ⟨_, (by unfold idKind; rw [h4, h5, h6, h7, h11] <;> rfl), H26.keep ⟨rfl, rfl, rfl, rfl, rfl, trivial⟩, O3⟩
          rintro a17 w4 ⟨v165, q165, H17, O4⟩
          cases v165 with
          | true =>
            have ki : idKind m.kind = true := q165
            refine H17.condT rfl ?_
            have ho : onlyOf m = { mq0 m.kind with id := m.id } := by unfold onlyOf; rw [if_neg k1, if_neg k2, if_neg k3, if_pos ki]
            have hq : okOf m = inRB m.id 1 65535 := by unfold okOf; rw [if_neg k1, if_neg k2, if_neg k3, if_pos ki]
            refine H17.rg 1 fun a18 H18 => ?_
            refine H18.ld 1 (O4.li 1 20) fun a20 H20 => ?_
            refine H20.sc O4 0 0 (fun u h f => store1_i _ _ _ u _ h f) fun a21 w5 O5 H21 => nt ?_
            have O5' : Own w w.heap.size [(w1.heap.size, (mqCells (onlyOf m) nilV nilV nilV)), (w.heap.size, (mqCells m (.slice A1 m.codes.length c1) (.slice A2 m.wishes.length c2) (.slice A3 m.filters.length c3)))] w5 := by rw [ho]; exact O5
            have O5 := O5'
            refine H21.rg 1 fun a22 H22 => ?_
            refine H22.ld 0 (O5.li 1 20) fun a23 H23 => ?_
            refine H23.cq 1 (refId m.id _) fun a25 H25 => ?_
            refine wpList_nil ?_
            refine block_normal ?_
            refine then_normal ?_
            exact ⟨nilV, nilV, nilV, (by rw [hq, show inRB m.id 1 65535 = inRB m.id 1 65535 from rfl]; exact H25.keep ⟨rfl, rfl, rfl, trivial⟩), MqL.nil (by rw [ho] <;> rfl) (by rw [ho] <;> rfl) (by rw [ho] <;> rfl), O5⟩
          | false =>
            have ki : ¬ idKind m.kind = true := by simp [q165]
            refine H17.condF rfl ?_
            obtain ⟨b8, h8⟩ : ∃ b, (m.kind == 8) = b := ⟨_, rfl⟩
            cases b8 with
            | true =>
              have k8 : m.kind = 8 := by simpa using h8
              refine rl ?_
              refine H17.bn 1 (eql_iB _ _ _ h8 _ _ _) fun a19 H19 => nt ?_
              refine H19.condT rfl ?_
              have ho : onlyOf m = { mq0 m.kind with id := m.id, wishes := m.wishes } := by unfold onlyOf; rw [if_neg k1, if_neg k2, if_neg k3, if_neg ki, if_pos k8]
              have hq : okOf m = (inRB m.id 1 65535 && wishesOk m.wishes) := by unfold okOf; rw [if_neg k1, if_neg k2, if_neg k3, if_neg ki, if_pos k8]
              repeat (refine wp_seq ?_)
              refine H19.ds O4 0 [1, 3, 4] rfl [ec 0 179 (.pointer (some ⟨w.heap.size, 20, none⟩)), ec 1 180 (.int .i64 m.id), ec 2 181 (.pointer (some ⟨w.heap.size, 22, none⟩)), ec 3 182 (.slice A2 m.wishes.length c2), ec 4 183 (.pointer (some ⟨w1.heap.size, 20, none⟩)), ec 6 184 (.pointer (some ⟨w1.heap.size, 22, none⟩))] [⟨7, 22, [(.slice A2 m.wishes.length c2)]⟩, ⟨5, 20, [(.int .i64 m.id)]⟩] rfl rfl ⟨jm, jl fun _ ⟨_, _, h⟩ => load1_i _ _ _ _ ((h.get 1 rfl).get 20 _ rfl), jm, jl fun _ ⟨_, _, h⟩ => load1_27 _ _ _ _ _ _ ((h.get 1 rfl).get 22 _ rfl), jm, jm, trivial⟩ ⟨q1 fun _ u h f => store1_27 _ _ _ _ _ u _ h f, q1 fun _ u h f => store1_i _ _ _ u _ h f, trivial⟩ ?_
              intro a20 w5 H20 O5
              have O5 : Own w w.heap.size [(w1.heap.size, (mqCells (onlyOf m) nilV (.slice A2 m.wishes.length c2) nilV)), (w.heap.size, (mqCells m (.slice A1 m.codes.length c1) (.slice A2 m.wishes.length c2) (.slice A3 m.filters.length c3)))] w5 := by rw [ho]; exact O5
              refine then_normal ?_
              refine rl ?_
              refine wpList_cut 4 (fun a' w' => ∃ b, inRB m.id 1 65535 = b ∧ Has a' 289 [(1, .pointer (some ⟨w.heap.size, 0, none⟩)), (3, .pointer (some ⟨w1.heap.size, 0, none⟩)), (188, .bool b)] ∧ Own w w.heap.size [(w1.heap.size, (mqCells (onlyOf m) nilV (.slice A2 m.wishes.length c2) nilV)), (w.heap.size, (mqCells m (.slice A1 m.codes.length c1) (.slice A2 m.wishes.length c2) (.slice A3 m.filters.length c3)))] w') ?_ ?_
              · skip
                refine H20.ms 1 fun a21 H21 => ?_
                refine H21.ld 0 (O5.li 1 20) fun a22 H22 => ?_
                refine H22.cq 1 (refId m.id _) fun a24 H24 => ?_
                exact nt ⟨_, by rfl, H24.keep ⟨rfl, rfl, rfl, trivial⟩, O5⟩
              rintro a21 w6 ⟨v188, q188, H21, O6⟩
              refine wpList_cut 4 (fun a' w' => ∃ b, (inRB m.id 1 65535 && wishesOk m.wishes) = b ∧ Has a' 289 [(1, .pointer (some ⟨w.heap.size, 0, none⟩)), (3, .pointer (some ⟨w1.heap.size, 0, none⟩)), (192, .bool b)] ∧ Own w w.heap.size [(w1.heap.size, (mqCells (onlyOf m) nilV (.slice A2 m.wishes.length c2) nilV)), (w.heap.size, (mqCells m (.slice A1 m.codes.length c1) (.slice A2 m.wishes.length c2) (.slice A3 m.filters.length c3)))] w') ?_ ?_
              · skip
                cases v188 with
                | false =>
                  refine H21.offs 3 rfl ?_
                  intro a22 H22
                  refine H22.pick gz rfl rfl rfl rfl rfl ?_
                  intro a23 H23
                  exact nt ⟨_, by rw [q188] <;> rfl, H23.keep ⟨rfl, rfl, rfl, trivial⟩, O6⟩
                | true =>
                  refine H21.field (H21.wt rfl rfl rfl) rfl rfl rfl rfl field_18 ?_
                  intro a22 H22
                  refine H22.load (H22.wt rfl rfl rfl) rfl rfl rfl rfl (load1_27 _ _ _ _ _ _ ((O6.get 1 rfl).get 22 _ rfl)) ?_
                  intro a23 H23
                  refine H23.call (H23.wt rfl rfl rfl) rfl rfl rfl rfl (fun _ _ => by kernel_rfl) (belowC (refWishes m.wishes _ rfl hF.wishes A2 c2 k2' _ (hW.below O6.bel) (r2.next O6.bel))) ?_
                  rintro a24 _ w7 ⟨rfl, hb⟩ H24
                  have O7 := O6.call hb
                  clear hb
                  refine H24.pick gz rfl rfl rfl rfl rfl ?_
                  intro a25 H25
                  exact nt ⟨_, by rw [q188] <;> rfl, H25.keep ⟨rfl, rfl, rfl, trivial⟩, O7⟩
              rintro a22 w7 ⟨v192, q192, H22, O7⟩
              refine H22.ms 1 fun a23 H23 => ?_
              refine wpList_nil ?_
              refine block_normal ?_
              refine then_normal ?_
              exact ⟨nilV, (.slice A2 m.wishes.length c2), nilV, (by rw [hq, q192]; exact H23.keep ⟨rfl, rfl, rfl, trivial⟩), (hL.next O7.bel).onlyW (by rw [ho] <;> rfl) (by rw [ho] <;> rfl) (by rw [ho] <;> rfl), O7⟩
            | false =>
              have k8 : ¬ m.kind = 8 := by simpa using h8
              refine rl ?_
              refine H17.bn 1 (eql_iB _ _ _ h8 _ _ _) fun a19 H19 => nt ?_
              refine H19.condF rfl ?_
              obtain ⟨b9, h9⟩ : ∃ b, (m.kind == 9) = b := ⟨_, rfl⟩
              cases b9 with
              | true =>
                have k9 : m.kind = 9 := by simpa using h9
                refine rl ?_
                refine H19.bn 1 (eql_iB _ _ _ h9 _ _ _) fun a21 H21 => nt ?_
                refine H21.condT rfl ?_
                have ho : onlyOf m = { mq0 m.kind with id := m.id, codes := m.codes } := by unfold onlyOf; rw [if_neg k1, if_neg k2, if_neg k3, if_neg ki, if_neg k8, if_pos k9]
                have hq : okOf m = (inRB m.id 1 65535 && codesOk m.codes) := by unfold okOf; rw [if_neg k1, if_neg k2, if_neg k3, if_neg ki, if_neg k8, if_pos k9]
                repeat (refine wp_seq ?_)
                refine H21.ds O4 0 [1, 3, 4] rfl [ec 0 195 (.pointer (some ⟨w.heap.size, 20, none⟩)), ec 1 196 (.int .i64 m.id), ec 2 197 (.pointer (some ⟨w.heap.size, 15, none⟩)), ec 3 198 (.slice A1 m.codes.length c1), ec 4 199 (.pointer (some ⟨w1.heap.size, 20, none⟩)), ec 6 200 (.pointer (some ⟨w1.heap.size, 15, none⟩))] [⟨7, 15, [(.slice A1 m.codes.length c1)]⟩, ⟨5, 20, [(.int .i64 m.id)]⟩] rfl rfl ⟨jm, jl fun _ ⟨_, _, h⟩ => load1_i _ _ _ _ ((h.get 1 rfl).get 20 _ rfl), jm, jl fun _ ⟨_, _, h⟩ => load1_26 _ _ _ _ _ _ ((h.get 1 rfl).get 15 _ rfl), jm, jm, trivial⟩ ⟨q1 fun _ u h f => store1_26 _ _ _ _ _ u _ h f, q1 fun _ u h f => store1_i _ _ _ u _ h f, trivial⟩ ?_
                intro a22 w5 H22 O5
                have O5 : Own w w.heap.size [(w1.heap.size, (mqCells (onlyOf m) (.slice A1 m.codes.length c1) nilV nilV)), (w.heap.size, (mqCells m (.slice A1 m.codes.length c1) (.slice A2 m.wishes.length c2) (.slice A3 m.filters.length c3)))] w5 := by rw [ho]; exact O5
                refine then_normal ?_
                refine rl ?_
                refine wpList_cut 4 (fun a' w' => ∃ b, inRB m.id 1 65535 = b ∧ Has a' 289 [(1, .pointer (some ⟨w.heap.size, 0, none⟩)), (3, .pointer (some ⟨w1.heap.size, 0, none⟩)), (204, .bool b)] ∧ Own w w.heap.size [(w1.heap.size, (mqCells (onlyOf m) (.slice A1 m.codes.length c1) nilV nilV)), (w.heap.size, (mqCells m (.slice A1 m.codes.length c1) (.slice A2 m.wishes.length c2) (.slice A3 m.filters.length c3)))] w') ?_ ?_
                · skip
                  refine H22.ms 1 fun a23 H23 => ?_
                  refine H23.ld 0 (O5.li 1 20) fun a24 H24 => ?_
                  refine H24.cq 1 (refId m.id _) fun a26 H26 => ?_
                  exact nt ⟨_, by rfl, H26.keep ⟨rfl, rfl, rfl, trivial⟩, O5⟩
                rintro a23 w6 ⟨v204, q204, H23, O6⟩
                refine wpList_cut 6 (fun a' w' => ∃ b, (inRB m.id 1 65535 && decide ((1 : Int) ≤ m.codes.length)) = b ∧ Has a' 289 [(1, .pointer (some ⟨w.heap.size, 0, none⟩)), (3, .pointer (some ⟨w1.heap.size, 0, none⟩)), (210, .bool b)] ∧ Own w w.heap.size [(w1.heap.size, (mqCells (onlyOf m) (.slice A1 m.codes.length c1) nilV nilV)), (w.heap.size, (mqCells m (.slice A1 m.codes.length c1) (.slice A2 m.wishes.length c2) (.slice A3 m.filters.length c3)))] w') ?_ ?_
                · skip
                  cases v204 with
                  | false =>
                    refine H23.offs 4 rfl ?_
                    intro a24 H24
                    refine H24.pick gz rfl rfl rfl rfl rfl ?_
                    intro a25 H25
                    refine H25.ms 1 fun a26 H26 => ?_
                    exact nt ⟨_, by rw [q204] <;> rfl, H26.keep ⟨rfl, rfl, rfl, trivial⟩, O6⟩
                  | true =>
                    refine H23.field (H23.wt rfl rfl rfl) rfl rfl rfl rfl field_11 ?_
                    intro a24 H24
                    refine H24.load (H24.wt rfl rfl rfl) rfl rfl rfl rfl (load1_26 _ _ _ _ _ _ ((O6.get 1 rfl).get 15 _ rfl)) ?_
                    intro a25 H25
                    refine H25.len (H25.wt rfl rfl rfl) rfl rfl rfl rfl Tryd.underlying26 ?_
                    intro a26 H26
                    refine H26.bin (H26.wt rfl rfl rfl) rfl rfl rfl rfl rfl (geq_i _ _ _ rfl _ _ _) ?_
                    intro a27 H27
                    refine H27.pick gz rfl rfl rfl rfl rfl ?_
                    intro a28 H28
                    refine H28.ms 1 fun a29 H29 => ?_
                    exact nt ⟨_, by rw [q204] <;> rfl, H29.keep ⟨rfl, rfl, rfl, trivial⟩, O6⟩
                rintro a24 w7 ⟨v210, q210, H24, O7⟩
                refine wpList_cut 5 (fun a' w' => ∃ b, ((inRB m.id 1 65535 && decide ((1 : Int) ≤ m.codes.length)) && decide ((m.codes.length : Int) ≤ 8)) = b ∧ Has a' 289 [(1, .pointer (some ⟨w.heap.size, 0, none⟩)), (3, .pointer (some ⟨w1.heap.size, 0, none⟩)), (215, .bool b)] ∧ Own w w.heap.size [(w1.heap.size, (mqCells (onlyOf m) (.slice A1 m.codes.length c1) nilV nilV)), (w.heap.size, (mqCells m (.slice A1 m.codes.length c1) (.slice A2 m.wishes.length c2) (.slice A3 m.filters.length c3)))] w') ?_ ?_
                · skip
                  cases v210 with
                  | false =>
                    refine H24.offs 4 rfl ?_
                    intro a25 H25
                    refine H25.pick gz rfl rfl rfl rfl rfl ?_
                    intro a26 H26
                    exact nt ⟨_, by rw [q210] <;> rfl, H26.keep ⟨rfl, rfl, rfl, trivial⟩, O7⟩
                  | true =>
                    refine H24.field (H24.wt rfl rfl rfl) rfl rfl rfl rfl field_11 ?_
                    intro a25 H25
                    refine H25.load (H25.wt rfl rfl rfl) rfl rfl rfl rfl (load1_26 _ _ _ _ _ _ ((O7.get 1 rfl).get 15 _ rfl)) ?_
                    intro a26 H26
                    refine H26.len (H26.wt rfl rfl rfl) rfl rfl rfl rfl Tryd.underlying26 ?_
                    intro a27 H27
                    refine H27.bin (H27.wt rfl rfl rfl) rfl rfl rfl rfl rfl (leq_i _ _ _ rfl _ _ _) ?_
                    intro a28 H28
                    refine H28.pick gz rfl rfl rfl rfl rfl ?_
                    intro a29 H29
                    exact nt ⟨_, by rw [q210] <;> rfl, H29.keep ⟨rfl, rfl, rfl, trivial⟩, O7⟩
                rintro a25 w8 ⟨v215, q215, H25, O8⟩
                refine H25.ms 1 fun a26 H26 => nt ?_
                refine H26.rg 1 fun a27 H27 => nt ?_
                refine wp_block ?_
                refine wp_loop_up m.codes.length (fun k a w' => ∃ b, (((inRB m.id 1 65535 && decide ((1 : Int) ≤ m.codes.length)) && decide ((m.codes.length : Int) ≤ 8)) && codesAll (m.codes.take k)) = b ∧ Has a 289 [(1, .pointer (some ⟨w.heap.size, 0, none⟩)), (3, .pointer (some ⟨w1.heap.size, 0, none⟩)), (4, .bool b), (5, .int .i64 ((k : Nat) : Int))] ∧ Own w w.heap.size [(w1.heap.size, (mqCells (onlyOf m) (.slice A1 m.codes.length c1) nilV nilV)), (w.heap.size, (mqCells m (.slice A1 m.codes.length c1) (.slice A2 m.wishes.length c2) (.slice A3 m.filters.length c3)))] w') ?_ ?_
                · exact ⟨_, (by rw [List.take_zero, q215]; simp [codesAll]), H27.keep ⟨rfl, rfl, rfl, rfl, trivial⟩, O8⟩
                · rintro k a28 w9 hkn ⟨v4, q4, H28, O9⟩
                  by_cases hlt : k < m.codes.length
                  · skip
                    refine H28.rg 2 fun a30 H30 => ?_
                    refine H30.ld 0 (O9.l6 1 15) fun a31 H31 => ?_
                    refine H31.len gz rfl rfl rfl rfl Tryd.underlying26 ?_
                    intro a32 H32
                    refine H32.bb 0 rfl rfl rfl rfl rfl rfl (lss_i _ _ true (by simpa using hlt) _ _ _) rfl fun a33 H33 => nt ?_
                    refine H33.condT rfl ?_
                    refine skip_wp ?_
                    refine then_normal ?_
                    repeat (refine wp_seq ?_)
                    refine wp_block ?_
                    refine rl ?_
                    obtain ⟨b, o, v, hA, _, hv, hc⟩ := (r1.next O9.bel).get1 hlt
                    obtain ⟨x, hx⟩ : ∃ x, m.codes[k]? = some x := ⟨_, List.getElem?_eq_getElem hlt⟩
                    rw [List.getElem?_map, hx] at hv
                    injection hv with hv
                    subst hv
                    refine wpList_cut 17 (fun a' w' => ∃ b, ((((inRB m.id 1 65535 && decide ((1 : Int) ≤ m.codes.length)) && decide ((m.codes.length : Int) ≤ 8)) && codesAll (m.codes.take k)) && (inRB x 0 2 || (x == 128))) = b ∧ Has a' 289 [(1, .pointer (some ⟨w.heap.size, 0, none⟩)), (3, .pointer (some ⟨w1.heap.size, 0, none⟩)), (5, .int .i64 ((k : Nat) : Int)), (239, .bool b)] ∧ Own w w.heap.size [(w1.heap.size, (mqCells (onlyOf m) (.slice A1 m.codes.length c1) nilV nilV)), (w.heap.size, (mqCells m (.slice A1 m.codes.length c1) (.slice A2 m.wishes.length c2) (.slice A3 m.filters.length c3)))] w') ?_ ?_
                    · skip
                      refine H33.ms 2 fun a35 H35 => ?_
                      cases v4 with
                      | false =>
                        refine H35.offs 14 rfl ?_
                        intro a36 H36
                        refine H36.pick gz rfl rfl rfl rfl rfl ?_
                        intro a37 H37
                        exact nt ⟨_, by rw [q4] <;> rfl, H37.keep ⟨rfl, rfl, rfl, rfl, trivial⟩, O9⟩
                      | true =>
                        refine H35.field (H35.wt rfl rfl rfl) rfl rfl rfl rfl field_11 ?_
                        intro a36 H36
                        refine H36.load (H36.wt rfl rfl rfl) rfl rfl rfl rfl (load1_26 _ _ _ _ _ _ ((O9.get 1 rfl).get 15 _ rfl)) ?_
                        intro a37 H37
                        refine H37.move (H37.wt rfl rfl rfl) (.inl rfl) rfl rfl rfl ?_
                        intro a38 H38
                        refine H38.index (H38.wt rfl rfl rfl) rfl rfl rfl rfl rfl (show (Instr.indexAt 26 (.slice A1 m.codes.length c1) (.int .i64 ((k : Nat) : Int))).run Tryd.prog _ = .ok (.pointer (some ⟨b, o + k, none⟩)) _ by rw [hA]; exact index_1 26 Tryd.underlying26 (fun _ => by kernel_rfl) _ _ _ _ _ hlt _) ?_
                        intro a39 H39
                        refine H39.load (H39.wt rfl rfl rfl) rfl rfl rfl rfl (load1_i _ _ _ _ hc) ?_
                        intro a40 H40
                        refine H40.call (H40.wt rfl rfl rfl) rfl rfl rfl rfl (fun _ _ => by kernel_rfl) (quietC (refNumB x 2 _)) ?_
                        rintro a41 _ _ ⟨rfl, rfl⟩ H41
                        refine H41.move (H41.wt rfl rfl rfl) (.inl rfl) rfl rfl rfl ?_
                        intro a42 H42
                        obtain ⟨v231, q231⟩ : ∃ b, inRB x 0 2 = b := ⟨_, rfl⟩
                        rw [q231] at H42
                        cases v231 with
                        | false =>
                          refine H42.field (H42.wt rfl rfl rfl) rfl rfl rfl rfl field_11 ?_
                          intro a43 H43
                          refine H43.load (H43.wt rfl rfl rfl) rfl rfl rfl rfl (load1_26 _ _ _ _ _ _ ((O9.get 1 rfl).get 15 _ rfl)) ?_
                          intro a44 H44
                          refine H44.move (H44.wt rfl rfl rfl) (.inl rfl) rfl rfl rfl ?_
                          intro a45 H45
                          refine H45.index (H45.wt rfl rfl rfl) rfl rfl rfl rfl rfl (show (Instr.indexAt 26 (.slice A1 m.codes.length c1) (.int .i64 ((k : Nat) : Int))).run Tryd.prog _ = .ok (.pointer (some ⟨b, o + k, none⟩)) _ by rw [hA]; exact index_1 26 Tryd.underlying26 (fun _ => by kernel_rfl) _ _ _ _ _ hlt _) ?_
                          intro a46 H46
                          refine H46.load (H46.wt rfl rfl rfl) rfl rfl rfl rfl (load1_i _ _ _ _ hc) ?_
                          intro a47 H47
                          refine H47.bin (H47.wt rfl rfl rfl) rfl rfl rfl rfl rfl (eql_i _ _ _ _ _) ?_
                          intro a48 H48
                          refine H48.pick (H48.wt rfl rfl rfl) rfl rfl rfl rfl rfl ?_
                          intro a49 H49
                          refine H49.pick gz rfl rfl rfl rfl rfl ?_
                          intro a50 H50
                          exact nt ⟨_, by rw [q4, q231] <;> rfl, H50.keep ⟨rfl, rfl, rfl, rfl, trivial⟩, O9⟩
                        | true =>
                          refine H42.offs 6 rfl ?_
                          intro a43 H43
                          refine H43.pick (H43.wt rfl rfl rfl) rfl rfl rfl rfl rfl ?_
                          intro a44 H44
                          refine H44.pick gz rfl rfl rfl rfl rfl ?_
                          intro a45 H45
                          exact nt ⟨_, by rw [q4, q231] <;> rfl, H45.keep ⟨rfl, rfl, rfl, rfl, trivial⟩, O9⟩
                    rintro a34 w10 ⟨v239, q239, H34, O10⟩
                    refine H34.ms 1 fun a35 H35 => ?_
                    refine wpList_nil ?_
                    refine block_normal ?_
                    refine then_normal ?_
                    refine H35.rg 1 fun a36 H36 => ?_
                    refine H36.bb 1 rfl rfl rfl rfl rfl rfl (succ_i _ (by omega) _ _ _) rfl fun a38 H38 => nt ?_
                    exact ⟨hlt, _, (by rw [take_snoc? _ _ _ hx, codesAll_snoc, ← Bool.and_assoc]; exact q239), H38.keep ⟨rfl, rfl, rfl, rfl, trivial⟩, O10⟩
                  · skip
                    refine H28.rg 2 fun a30 H30 => ?_
                    refine H30.ld 0 (O9.l6 1 15) fun a31 H31 => ?_
                    refine H31.len gz rfl rfl rfl rfl Tryd.underlying26 ?_
                    intro a32 H32
                    refine H32.bb 0 rfl rfl rfl rfl rfl rfl (lss_i _ _ false (by simpa using hlt) _ _ _) rfl fun a33 H33 => nt ?_
                    refine H33.condF rfl ?_
                    refine wp_exit ?_
                    repeat (with_reducible refine then_exit ?_)
                    refine block_leave ?_
                    rw [List.take_of_length_le (by omega)] at q4
                    refine block_normal ?_
                    refine then_normal ?_
                    exact ⟨(.slice A1 m.codes.length c1), nilV, nilV, (by rw [hq, show (inRB m.id 1 65535 && codesOk m.codes) = v4 from (list_and _ _ _).symm.trans q4]; exact H33.keep ⟨rfl, rfl, rfl, trivial⟩), (hL.next O9.bel).onlyC (by rw [ho] <;> rfl) (by rw [ho] <;> rfl) (by rw [ho] <;> rfl), O9⟩
              | false =>
                have k9 : ¬ m.kind = 9 := by simpa using h9
                refine rl ?_
                refine H19.bn 1 (eql_iB _ _ _ h9 _ _ _) fun a21 H21 => nt ?_
                refine H21.condF rfl ?_
                obtain ⟨b10, h10⟩ : ∃ b, (m.kind == 10) = b := ⟨_, rfl⟩
                cases b10 with
                | true =>
                  have k10 : m.kind = 10 := by simpa using h10
                  refine rl ?_
                  refine H21.bn 1 (eql_iB _ _ _ h10 _ _ _) fun a23 H23 => nt ?_
                  refine H23.condT rfl ?_
                  have ho : onlyOf m = { mq0 m.kind with id := m.id, filters := m.filters } := by unfold onlyOf; rw [if_neg k1, if_neg k2, if_neg k3, if_neg ki, if_neg k8, if_neg k9, if_pos k10]
                  have hq : okOf m = (inRB m.id 1 65535 && filtersOk m.filters) := by unfold okOf; rw [if_neg k1, if_neg k2, if_neg k3, if_neg ki, if_neg k8, if_neg k9, if_pos k10]
                  repeat (refine wp_seq ?_)
                  refine H23.ds O4 0 [1, 3, 4] rfl [ec 0 242 (.pointer (some ⟨w.heap.size, 20, none⟩)), ec 1 243 (.int .i64 m.id), ec 2 244 (.pointer (some ⟨w.heap.size, 23, none⟩)), ec 3 245 (.slice A3 m.filters.length c3), ec 4 246 (.pointer (some ⟨w1.heap.size, 20, none⟩)), ec 6 247 (.pointer (some ⟨w1.heap.size, 23, none⟩))] [⟨7, 23, [(.slice A3 m.filters.length c3)]⟩, ⟨5, 20, [(.int .i64 m.id)]⟩] rfl rfl ⟨jm, jl fun _ ⟨_, _, h⟩ => load1_i _ _ _ _ ((h.get 1 rfl).get 20 _ rfl), jm, jl fun _ ⟨_, _, h⟩ => load1_28 _ _ _ _ _ _ ((h.get 1 rfl).get 23 _ rfl), jm, jm, trivial⟩ ⟨q1 fun _ u h f => store1_28 _ _ _ _ _ u _ h f, q1 fun _ u h f => store1_i _ _ _ u _ h f, trivial⟩ ?_
                  intro a24 w5 H24 O5
                  have O5 : Own w w.heap.size [(w1.heap.size, (mqCells (onlyOf m) nilV nilV (.slice A3 m.filters.length c3))), (w.heap.size, (mqCells m (.slice A1 m.codes.length c1) (.slice A2 m.wishes.length c2) (.slice A3 m.filters.length c3)))] w5 := by rw [ho]; exact O5
                  refine then_normal ?_
                  refine rl ?_
                  refine wpList_cut 4 (fun a' w' => ∃ b, inRB m.id 1 65535 = b ∧ Has a' 289 [(1, .pointer (some ⟨w.heap.size, 0, none⟩)), (3, .pointer (some ⟨w1.heap.size, 0, none⟩)), (251, .bool b)] ∧ Own w w.heap.size [(w1.heap.size, (mqCells (onlyOf m) nilV nilV (.slice A3 m.filters.length c3))), (w.heap.size, (mqCells m (.slice A1 m.codes.length c1) (.slice A2 m.wishes.length c2) (.slice A3 m.filters.length c3)))] w') ?_ ?_
                  · skip
                    refine H24.ms 1 fun a25 H25 => ?_
                    refine H25.ld 0 (O5.li 1 20) fun a26 H26 => ?_
                    refine H26.cq 1 (refId m.id _) fun a28 H28 => ?_
                    exact nt ⟨_, by rfl, H28.keep ⟨rfl, rfl, rfl, trivial⟩, O5⟩
                  rintro a25 w6 ⟨v251, q251, H25, O6⟩
                  refine wpList_cut 6 (fun a' w' => ∃ b, (inRB m.id 1 65535 && decide ((1 : Int) ≤ m.filters.length)) = b ∧ Has a' 289 [(1, .pointer (some ⟨w.heap.size, 0, none⟩)), (3, .pointer (some ⟨w1.heap.size, 0, none⟩)), (257, .bool b)] ∧ Own w w.heap.size [(w1.heap.size, (mqCells (onlyOf m) nilV nilV (.slice A3 m.filters.length c3))), (w.heap.size, (mqCells m (.slice A1 m.codes.length c1) (.slice A2 m.wishes.length c2) (.slice A3 m.filters.length c3)))] w') ?_ ?_
                  · skip
                    cases v251 with
                    | false =>
                      refine H25.offs 4 rfl ?_
                      intro a26 H26
                      refine H26.pick gz rfl rfl rfl rfl rfl ?_
                      intro a27 H27
                      refine H27.ms 1 fun a28 H28 => ?_
                      exact nt ⟨_, by rw [q251] <;> rfl, H28.keep ⟨rfl, rfl, rfl, trivial⟩, O6⟩
                    | true =>
                      refine H25.field (H25.wt rfl rfl rfl) rfl rfl rfl rfl field_19 ?_
                      intro a26 H26
                      refine H26.load (H26.wt rfl rfl rfl) rfl rfl rfl rfl (load1_28 _ _ _ _ _ _ ((O6.get 1 rfl).get 23 _ rfl)) ?_
                      intro a27 H27
                      refine H27.len (H27.wt rfl rfl rfl) rfl rfl rfl rfl Tryd.underlying28 ?_
                      intro a28 H28
                      refine H28.bin (H28.wt rfl rfl rfl) rfl rfl rfl rfl rfl (geq_i _ _ _ rfl _ _ _) ?_
                      intro a29 H29
                      refine H29.pick gz rfl rfl rfl rfl rfl ?_
                      intro a30 H30
                      refine H30.ms 1 fun a31 H31 => ?_
                      exact nt ⟨_, by rw [q251] <;> rfl, H31.keep ⟨rfl, rfl, rfl, trivial⟩, O6⟩
                  rintro a26 w7 ⟨v257, q257, H26, O7⟩
                  refine wpList_cut 5 (fun a' w' => ∃ b, ((inRB m.id 1 65535 && decide ((1 : Int) ≤ m.filters.length)) && decide ((m.filters.length : Int) ≤ 8)) = b ∧ Has a' 289 [(1, .pointer (some ⟨w.heap.size, 0, none⟩)), (3, .pointer (some ⟨w1.heap.size, 0, none⟩)), (262, .bool b)] ∧ Own w w.heap.size [(w1.heap.size, (mqCells (onlyOf m) nilV nilV (.slice A3 m.filters.length c3))), (w.heap.size, (mqCells m (.slice A1 m.codes.length c1) (.slice A2 m.wishes.length c2) (.slice A3 m.filters.length c3)))] w') ?_ ?_
                  · skip
                    cases v257 with
                    | false =>
                      refine H26.offs 4 rfl ?_
                      intro a27 H27
                      refine H27.pick gz rfl rfl rfl rfl rfl ?_
                      intro a28 H28
                      exact nt ⟨_, by rw [q257] <;> rfl, H28.keep ⟨rfl, rfl, rfl, trivial⟩, O7⟩
                    | true =>
                      refine H26.field (H26.wt rfl rfl rfl) rfl rfl rfl rfl field_19 ?_
                      intro a27 H27
                      refine H27.load (H27.wt rfl rfl rfl) rfl rfl rfl rfl (load1_28 _ _ _ _ _ _ ((O7.get 1 rfl).get 23 _ rfl)) ?_
                      intro a28 H28
                      refine H28.len (H28.wt rfl rfl rfl) rfl rfl rfl rfl Tryd.underlying28 ?_
                      intro a29 H29
                      refine H29.bin (H29.wt rfl rfl rfl) rfl rfl rfl rfl rfl (leq_i _ _ _ rfl _ _ _) ?_
                      intro a30 H30
                      refine H30.pick gz rfl rfl rfl rfl rfl ?_
                      intro a31 H31
                      exact nt ⟨_, by rw [q257] <;> rfl, H31.keep ⟨rfl, rfl, rfl, trivial⟩, O7⟩
                  rintro a27 w8 ⟨v262, q262, H27, O8⟩
                  refine H27.ms 1 fun a28 H28 => nt ?_
                  refine H28.rg 1 fun a29 H29 => nt ?_
                  refine wp_block ?_
                  refine wp_loop_up m.filters.length (fun k a w' => ∃ b, (((inRB m.id 1 65535 && decide ((1 : Int) ≤ m.filters.length)) && decide ((m.filters.length : Int) ≤ 8)) && filtersAll (m.filters.take k)) = b ∧ Has a 289 [(1, .pointer (some ⟨w.heap.size, 0, none⟩)), (3, .pointer (some ⟨w1.heap.size, 0, none⟩)), (4, .bool b), (6, .int .i64 ((k : Nat) : Int))] ∧ Own w w.heap.size [(w1.heap.size, (mqCells (onlyOf m) nilV nilV (.slice A3 m.filters.length c3))), (w.heap.size, (mqCells m (.slice A1 m.codes.length c1) (.slice A2 m.wishes.length c2) (.slice A3 m.filters.length c3)))] w') ?_ ?_
                  · exact ⟨_, (by rw [List.take_zero, q262]; simp [filtersAll]), H29.keep ⟨rfl, rfl, rfl, rfl, trivial⟩, O8⟩
                  · rintro k a30 w9 hkn ⟨v4, q4, H30, O9⟩
                    by_cases hlt : k < m.filters.length
                    · skip
                      refine H30.rg 2 fun a32 H32 => ?_
                      refine H32.ld 0 (O9.l8 1 23) fun a33 H33 => ?_
                      refine H33.len gz rfl rfl rfl rfl Tryd.underlying28 ?_
                      intro a34 H34
                      refine H34.bb 0 rfl rfl rfl rfl rfl rfl (lss_i _ _ true (by simpa using hlt) _ _ _) rfl fun a35 H35 => nt ?_
                      refine H35.condT rfl ?_
                      refine skip_wp ?_
                      refine then_normal ?_
                      repeat (refine wp_seq ?_)
                      refine wp_block ?_
                      refine rl ?_
                      obtain ⟨b, o, v, hA, _, hv, hc⟩ := (r3.next O9.bel).get1 hlt
                      obtain ⟨x, hx⟩ : ∃ x, m.filters[k]? = some x := ⟨_, List.getElem?_eq_getElem hlt⟩
                      rw [List.getElem?_map, hx] at hv
                      injection hv with hv
                      subst hv
                      refine wpList_cut 9 (fun a' w' => ∃ b, ((((inRB m.id 1 65535 && decide ((1 : Int) ≤ m.filters.length)) && decide ((m.filters.length : Int) ≤ 8)) && filtersAll (m.filters.take k)) && textOk x 1 64) = b ∧ Has a' 289 [(1, .pointer (some ⟨w.heap.size, 0, none⟩)), (3, .pointer (some ⟨w1.heap.size, 0, none⟩)), (6, .int .i64 ((k : Nat) : Int)), (278, .bool b)] ∧ Own w w.heap.size [(w1.heap.size, (mqCells (onlyOf m) nilV nilV (.slice A3 m.filters.length c3))), (w.heap.size, (mqCells m (.slice A1 m.codes.length c1) (.slice A2 m.wishes.length c2) (.slice A3 m.filters.length c3)))] w') ?_ ?_
                      · skip
                        refine H35.ms 2 fun a37 H37 => ?_
                        cases v4 with
                        | false =>
                          refine H37.offs 6 rfl ?_
                          intro a38 H38
                          refine H38.pick gz rfl rfl rfl rfl rfl ?_
                          intro a39 H39
                          exact nt ⟨_, by rw [q4] <;> rfl, H39.keep ⟨rfl, rfl, rfl, rfl, trivial⟩, O9⟩
                        | true =>
                          refine H37.field (H37.wt rfl rfl rfl) rfl rfl rfl rfl field_19 ?_
                          intro a38 H38
                          refine H38.load (H38.wt rfl rfl rfl) rfl rfl rfl rfl (load1_28 _ _ _ _ _ _ ((O9.get 1 rfl).get 23 _ rfl)) ?_
                          intro a39 H39
                          refine H39.move (H39.wt rfl rfl rfl) (.inl rfl) rfl rfl rfl ?_
                          intro a40 H40
                          refine H40.index (H40.wt rfl rfl rfl) rfl rfl rfl rfl rfl (show (Instr.indexAt 28 (.slice A3 m.filters.length c3) (.int .i64 ((k : Nat) : Int))).run Tryd.prog _ = .ok (.pointer (some ⟨b, o + k, none⟩)) _ by rw [hA]; exact index_1 28 Tryd.underlying28 (fun _ => by kernel_rfl) _ _ _ _ _ hlt _) ?_
                          intro a41 H41
                          refine H41.load (H41.wt rfl rfl rfl) rfl rfl rfl rfl (load1_s _ _ _ _ hc) ?_
                          intro a42 H42
                          refine H42.call (H42.wt rfl rfl rfl) rfl rfl rfl rfl (fun _ _ => by kernel_rfl) (belowC (refTextV x (hF.filters x (List.mem_of_getElem? hx)) 1 64 _ (hW.below O9.bel))) ?_
                          rintro a43 _ w10 ⟨rfl, hb⟩ H43
                          have O10 := O9.call hb
                          clear hb
                          refine H43.pick gz rfl rfl rfl rfl rfl ?_
                          intro a44 H44
                          exact nt ⟨_, by rw [q4] <;> rfl, H44.keep ⟨rfl, rfl, rfl, rfl, trivial⟩, O10⟩
                      rintro a36 w10 ⟨v278, q278, H36, O10⟩
                      refine H36.ms 1 fun a37 H37 => ?_
                      refine wpList_nil ?_
                      refine block_normal ?_
                      refine then_normal ?_
                      refine H37.rg 1 fun a38 H38 => ?_
                      refine H38.bb 1 rfl rfl rfl rfl rfl rfl (succ_i _ (by omega) _ _ _) rfl fun a40 H40 => nt ?_
                      exact ⟨hlt, _, (by rw [take_snoc? _ _ _ hx, filtersAll_snoc, ← Bool.and_assoc]; exact q278), H40.keep ⟨rfl, rfl, rfl, rfl, trivial⟩, O10⟩
                    · skip
                      refine H30.rg 2 fun a32 H32 => ?_
                      refine H32.ld 0 (O9.l8 1 23) fun a33 H33 => ?_
                      refine H33.len gz rfl rfl rfl rfl Tryd.underlying28 ?_
                      intro a34 H34
                      refine H34.bb 0 rfl rfl rfl rfl rfl rfl (lss_i _ _ false (by simpa using hlt) _ _ _) rfl fun a35 H35 => nt ?_
                      refine H35.condF rfl ?_
                      refine wp_exit ?_
                      repeat (with_reducible refine then_exit ?_)
                      refine block_leave ?_
                      rw [List.take_of_length_le (by omega)] at q4
                      refine block_normal ?_
                      refine then_normal ?_
                      exact ⟨nilV, nilV, (.slice A3 m.filters.length c3), (by rw [hq, show (inRB m.id 1 65535 && filtersOk m.filters) = v4 from (list_and _ _ _).symm.trans q4]; exact H35.keep ⟨rfl, rfl, rfl, trivial⟩), (hL.next O9.bel).onlyF (by rw [ho] <;> rfl) (by rw [ho] <;> rfl) (by rw [ho] <;> rfl), O9⟩
                | false =>
                  have k10 : ¬ m.kind = 10 := by simpa using h10
                  refine rl ?_
                  refine H21.bn 1 (eql_iB _ _ _ h10 _ _ _) fun a23 H23 => nt ?_
                  refine H23.condF rfl ?_
                  refine wp_seq_join (fun a w' => ∃ b, bareKind m.kind = b ∧ Has a 289 [(1, .pointer (some ⟨w.heap.size, 0, none⟩)), (3, .pointer (some ⟨w1.heap.size, 0, none⟩)), (4, .bool true), (11, .int .i64 m.kind), (279, .bool b)] ∧ Own w w.heap.size [(w1.heap.size, (mqCells (mq0 m.kind) nilV nilV nilV)), (w.heap.size, (mqCells m (.slice A1 m.codes.length c1) (.slice A2 m.wishes.length c2) (.slice A3 m.filters.length c3)))] w') ?_ ?_
                  · skip
                    obtain ⟨b12, h12⟩ : ∃ b, (m.kind == 12) = b := ⟨_, rfl⟩
                    cases b12 with
                    | true =>
                      refine rl ?_
                      refine H23.bn 1 (eql_iB _ _ _ h12 _ _ _) fun a25 H25 => nt ?_
                      refine H25.condT rfl ?_
                      refine skip_wp ?_
                      refine then_normal ?_
                      exact ⟨_, (by unfold bareKind; rw [h12] <;> rfl), H25.keep ⟨rfl, rfl, rfl, rfl, rfl, trivial⟩, O4⟩
                    | false =>
                      refine rl ?_
                      refine H23.bn 1 (eql_iB _ _ _ h12 _ _ _) fun a25 H25 => nt ?_
                      refine H25.condF rfl ?_
                      obtain ⟨b13, h13⟩ : ∃ b, (m.kind == 13) = b := ⟨_, rfl⟩
                      cases b13 with
                      | true =>
                        refine rl ?_
                        refine H25.bn 1 (eql_iB _ _ _ h13 _ _ _) fun a27 H27 => nt ?_
                        refine H27.condT rfl ?_
                        refine skip_wp ?_
                        refine then_normal ?_
                        exact ⟨_, (by unfold bareKind; rw [h12, h13] <;> rfl), H27.keep ⟨rfl, rfl, rfl, rfl, rfl, trivial⟩, O4⟩
                      | false =>
                        refine rl ?_
                        refine H25.bn 1 (eql_iB _ _ _ h13 _ _ _) fun a27 H27 => nt ?_
                        refine H27.condF rfl ?_
                        obtain ⟨b14, h14⟩ : ∃ b, (m.kind == 14) = b := ⟨_, rfl⟩
                        cases b14 with
                        | true =>
                          refine rl ?_
                          refine H27.bn 1 (eql_iB _ _ _ h14 _ _ _) fun a29 H29 => nt ?_
                          exact ⟨_, (by unfold bareKind; rw [h12, h13, h14] <;> rfl), H29.keep ⟨rfl, rfl, rfl, rfl, rfl, trivial⟩, O4⟩
                        | false =>
                          refine rl ?_
                          refine H27.bn 1 (eql_iB _ _ _ h14 _ _ _) fun a29 H29 => nt ?_
                          exact ⟨_, (by unfold bareKind; rw [h12, h13, h14] <;> rfl), H29.keep ⟨rfl, rfl, rfl, rfl, rfl, trivial⟩, O4⟩
                  rintro a24 w5 ⟨v279, q279, H24, O5⟩
                  cases v279 with
                  | true =>
                    refine H24.condT rfl ?_
                    refine skip_wp ?_
                    have ho : onlyOf m = mq0 m.kind := by unfold onlyOf; rw [if_neg k1, if_neg k2, if_neg k3, if_neg ki, if_neg k8, if_neg k9, if_neg k10]
                    have hq : okOf m = bareKind m.kind := by unfold okOf; rw [if_neg k1, if_neg k2, if_neg k3, if_neg ki, if_neg k8, if_neg k9, if_neg k10]
                    have O5 : Own w w.heap.size [(w1.heap.size, (mqCells (onlyOf m) nilV nilV nilV)), (w.heap.size, (mqCells m (.slice A1 m.codes.length c1) (.slice A2 m.wishes.length c2) (.slice A3 m.filters.length c3)))] w5 := by rw [ho]; exact O5
                    refine block_normal ?_
                    refine then_normal ?_
                    exact ⟨nilV, nilV, nilV, (by rw [hq, q279]; exact H24.keep ⟨rfl, rfl, rfl, trivial⟩), MqL.nil (by rw [ho] <;> rfl) (by rw [ho] <;> rfl) (by rw [ho] <;> rfl), O5⟩
                  | false =>
                    refine H24.condF rfl ?_
                    have ho : onlyOf m = mq0 m.kind := by unfold onlyOf; rw [if_neg k1, if_neg k2, if_neg k3, if_neg ki, if_neg k8, if_neg k9, if_neg k10]
                    have hq : okOf m = bareKind m.kind := by unfold okOf; rw [if_neg k1, if_neg k2, if_neg k3, if_neg ki, if_neg k8, if_neg k9, if_neg k10]
                    refine H24.rg 1 fun a25 H25 => nt ?_
                    refine wp_ret ?_
                    repeat (first | (with_reducible refine block_ret ?_) | (with_reducible refine then_ret ?_))
                    refine bodyPost_ret (results_tmp rfl _ _ _) H25.df ⟨?_, O5.bel⟩
                    have hm : mayBb m = false := by unfold mayBb; rw [hq, q279]; rfl
                    rw [hm]
                    exact congrArg Ending.returned (H25.at_ 2 _ rfl)
  rintro a9 w4 ⟨vc', vw', vf', H9, hM, O4⟩
  obtain ⟨vo, qo⟩ : ∃ b, okOf m = b := ⟨_, rfl⟩
  rw [qo] at H9
  have hm : mayBb m = (vo && Mq.same m (onlyOf m)) := by unfold mayBb; rw [qo]
  refine rl ?_
  cases vo with
  | false =>
    refine H9.ms 2 fun a11 H11 => ?_
    refine H11.offs 3 rfl ?_
    intro a12 H12
    refine H12.pick gz rfl rfl rfl rfl rfl ?_
    intro a13 H13
    refine H13.ms 1 fun a14 H14 => nt ?_
    refine wp_ret ?_
    repeat (first | (with_reducible refine block_ret ?_) | (with_reducible refine then_ret ?_))
    refine bodyPost_ret (results_tmp rfl _ _ _) H14.df ⟨?_, O4.bel⟩
    rw [hm]
    exact congrArg Ending.returned (H14.at_ 2 _ rfl)
  | true =>
    refine H9.ms 2 fun a11 H11 => ?_
    refine H11.go (H11.wt rfl rfl rfl) rfl rfl _ (run_load rfl (H11.ev rfl) (loadS_run (O4.get 0 rfl))) ?_
    intro a12 H12
    refine H12.go (H12.wt rfl rfl rfl) rfl rfl _ (run_load rfl (H12.ev rfl) (loadS_run (O4.get 1 rfl))) ?_
    intro a13 H13
    refine H13.call (H13.wt rfl rfl rfl) rfl rfl rfl rfl (fun _ _ => by kernel_rfl) (belowC (refEqMq (onlyOf m) m _ _ _ _ _ _ _ hM (hL.next O4.bel))) ?_
    rintro a14 _ w5 ⟨rfl, hb⟩ H14
    have O5 := O4.call hb
    clear hb
    refine H14.pick gz rfl rfl rfl rfl rfl ?_
    intro a15 H15
    refine H15.ms 1 fun a16 H16 => nt ?_
    refine wp_ret ?_
    repeat (first | (with_reducible refine block_ret ?_) | (with_reducible refine then_ret ?_))
    refine bodyPost_ret (results_tmp rfl _ _ _) H16.df ⟨?_, O5.bel⟩
    rw [hm]
    rw [same_symm m (onlyOf m)]
    exact congrArg Ending.returned (H16.at_ 2 _ rfl)
end Go.Proofs.YtkcdkjpmbjcmdaaDoor
