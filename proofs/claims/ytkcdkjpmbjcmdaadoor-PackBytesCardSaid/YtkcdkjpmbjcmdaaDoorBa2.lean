/-
  'return o, id && f(p.L)' in a region that draws.
-/
import Derived.ScopeJumps
import Derived.LoopN
import Derived.Test.YtkcdkjpmbjcmdaaDoorBa1
namespace Go.Proofs.YtkcdkjpmbjcmdaaDoor
open Go.RowKit

section
variable {P : Program} {Q : Exit → Act → World → Prop} {a : Act} {w W : World} {id n B g1 g2 x m1 m2 q l b r2 r T TL f off : Nat} {L1 L2 : List Value} {fn : FuncId} {ats : Array TypeId} {c e : Bool} {va : Value}
  {y0 y1 y2 y3 y4 y5 y6 y7 y8 : TypeId} {p0 p1 p2 p3 p4 p5 p6 p7 p8 : String} {f0 f1 f2 f3 f4 f5 f6 f7 f8 : Array Edge}
set_option maxHeartbeats 1600000 in
/-- the nine operations of 'return o, id && f(p.L)': o in slot 2, p in slot 1, id in slot 4. -/
theorem region_keepL (hm : P.follows .mixedOrders = true) (hsz : a.tmps.size = n) (hdf : a.defers = []) (h1 : a.eval (.tmp 1) = .pointer (some ⟨g1, 0, none⟩)) (h2 : a.eval (.tmp 2) = .pointer (some ⟨g2, 0, none⟩)) (h4 : a.eval (.tmp 4) = .bool c)
    (hT : Two W B g1 g2 L1 L2 w) (hfit : fits n [(1, .pointer (some ⟨g1, 0, none⟩)), (2, .pointer (some ⟨g2, 0, none⟩)), (4, .bool c)] [(0, x, .agg L2.toArray), (1, m1, .bool c), (2, m2, .bool c), (3, q, if c then .pointer (some ⟨g1, off, none⟩) else undef), (4, l, if c then va else undef), (5, b, if c then .bool e else undef), (6, r2, .bool (c && e)), (8, r, .bool (c && e))] = true)
    (hback : ∀ (i : Nat) (o : Oper), (#[⟨some x, .load T (.tmp 2), y0, p0, f0, none⟩, ⟨some m1, .move (.tmp 4), y1, p1, f1, none⟩, ⟨some m2, .move (.tmp m1), y2, p2, f2, none⟩,
      ⟨some q, .fieldAddr T (.tmp 1) f, y3, p3, f3, some (2, true)⟩, ⟨some l, .load TL (.tmp q), y4, p4, f4, some (2, true)⟩,
      ⟨some b, .call { callee := .value (.func fn), args := #[.tmp l], argTypes := ats }, y5, p5, f5, some (2, true)⟩, ⟨some r2, .pick (.tmp m2) (.tmp b) (.const (.bool false)), y6, p6, f6, none⟩,
      ⟨none, .store T (.tmp 2) (.tmp x), y7, p7, f7, none⟩, ⟨some r, .assign (.tmp r2), y8, p8, f8, none⟩] : Array Oper)[i]? = some o → ∀ e ∈ o.after, Region.binds .any e = true → e.on < i)
    (e2 : ∃ e ∈ f2, Region.binds .any e = true ∧ e.on = 1) (e3 : ∃ e ∈ f3, Region.binds .any e = true ∧ e.on = 2) (e4g : ∃ e ∈ f4, Region.binds .any e = true ∧ e.on = 2) (e4 : ∃ e ∈ f4, Region.binds .any e = true ∧ e.on = 3) (e5g : ∃ e ∈ f5, Region.binds .any e = true ∧ e.on = 2) (e5 : ∃ e ∈ f5, Region.binds .any e = true ∧ e.on = 4) (e6g : ∃ e ∈ f6, Region.binds .any e = true ∧ e.on = 2) (e6 : ∃ e ∈ f6, Region.binds .any e = true ∧ e.on = 5) (e7 : ∃ e ∈ f7, Region.binds .any e = true ∧ e.on = 0) (e8 : ∃ e ∈ f8, Region.binds .any e = true ∧ e.on = 6)
    (du : TypeDesc) (hu : P.underlying T = some du) (hr : du.isRow = true) (m : Nat) (hn : (P.info? T).map (·.size) = some m) (hl2 : L2.length = m) (ho2 : L2.all (·.oneCell') = true)
    (hf : ∀ g w, (Instr.fieldAt T (.pointer (some ⟨g, 0, none⟩)) f).run P w = .ok (.pointer (some ⟨g, off, none⟩)) w)
    (hld : ∀ w', Two W B g1 g2 L1 L2 w' → (Instr.loadAt TL (.pointer (some ⟨g1, off, none⟩))).run P w' = .ok va w')
    (hen : ∀ (args : Array Value) (w : World), (callFunc fn args).run P w = .ok (.enter fn args) w)
    (hc : ∀ w', Two W B g1 g2 L1 L2 w' → Calls P fn #[va] w' fun z w'' => z = .returned (.bool e) ∧ Below w'.heap.size w' w'')
    (hfin : ∀ a' w', a'.defers = [] → a'.eval (.tmp 2) = .pointer (some ⟨g2, 0, none⟩) → a'.eval (.tmp r) = .bool (c && e) → Two W B g1 g2 L1 L2 w' → Q .normal a' w') :
    (Code.region id #[⟨some x, .load T (.tmp 2), y0, p0, f0, none⟩, ⟨some m1, .move (.tmp 4), y1, p1, f1, none⟩, ⟨some m2, .move (.tmp m1), y2, p2, f2, none⟩,
      ⟨some q, .fieldAddr T (.tmp 1) f, y3, p3, f3, some (2, true)⟩, ⟨some l, .load TL (.tmp q), y4, p4, f4, some (2, true)⟩,
      ⟨some b, .call { callee := .value (.func fn), args := #[.tmp l], argTypes := ats }, y5, p5, f5, some (2, true)⟩, ⟨some r2, .pick (.tmp m2) (.tmp b) (.const (.bool false)), y6, p6, f6, none⟩,
      ⟨none, .store T (.tmp 2) (.tmp x), y7, p7, f7, none⟩, ⟨some r, .assign (.tmp r2), y8, p8, f8, none⟩] true).wp P Q a w := by
  refine wp_region_inv hm (Inv n [(1, .pointer (some ⟨g1, 0, none⟩)), (2, .pointer (some ⟨g2, 0, none⟩)), (4, .bool c)] [(0, x, .agg L2.toArray), (1, m1, .bool c), (2, m2, .bool c), (3, q, if c then .pointer (some ⟨g1, off, none⟩) else undef), (4, l, if c then va else undef), (5, b, if c then .bool e else undef), (6, r2, .bool (c && e)), (8, r, .bool (c && e))] (Two W B g1 g2 L1 L2)) hback ?_ ?_ ?_
  · intro listed aa ww i o hs ho hd hI
    have u1 : aa.eval (.tmp 1) = .pointer (some ⟨g1, 0, none⟩) := hI.fx (1, _) (by simp)
    have u2 : aa.eval (.tmp 2) = .pointer (some ⟨g2, 0, none⟩) := hI.fx (2, _) (by simp)
    have u4 : aa.eval (.tmp 4) = .bool c := hI.fx (4, _) (by simp)
    match i, ho with
    | 0, ho =>
      obtain rfl := pick_op ho rfl
      exact wpOp_load_cells ho (wanted_none rfl _) x rfl T _ rfl g2 u2 hI.wp.c2 du hu hr m hn hl2 (hI.put hfit 0 x _ (by simp) hI.wp)
    | 1, ho =>
      obtain rfl := pick_op ho rfl
      exact wpOp_go ho (wanted_none rfl _) m1 rfl (.bool c) ww (by rw [← u4]; rfl) (hI.put hfit 1 m1 _ (by simp) hI.wp)
    | 2, ho =>
      obtain rfl := pick_op ho rfl
      have um1 : aa.eval (.tmp m1) = .bool c := by
        obtain ⟨ed, hed, hbd, hon⟩ := e2
        have hl := hd ed hed hbd
        rw [hon] at hl
        exact hI.vs (1, m1, _) (by simp) hl
      exact wpOp_go ho (wanted_none rfl _) m2 rfl (.bool c) ww (by rw [← um1]; rfl) (hI.put hfit 2 m2 _ (by simp) hI.wp)
    | 3, ho =>
      obtain rfl := pick_op ho rfl
      have um : aa.eval (.tmp m2) = .bool c := by
        obtain ⟨ed, hed, hbd, hon⟩ := e3
        have hl := hd ed hed hbd
        rw [hon] at hl
        exact hI.vs (2, m2, _) (by simp) hl
      cases c with
      | false => exact wpOp_off ho (wanted_of rfl (yielded_of (d := m2) rfl um)) (hI.put hfit 3 q undef (by simp) hI.wp)
      | true =>
        refine wpOp_go ho (wanted_of rfl (yielded_of (d := m2) rfl um)) q rfl (.pointer (some ⟨g1, off, none⟩)) ww ?_ (hI.put hfit 3 q _ (by simp) hI.wp)
        unfold execOp
        simp only [u1, Sem.run_bind, hf, Result.andThen_ok, Sem.run_pure]
    | 4, ho =>
      obtain rfl := pick_op ho rfl
      have um : aa.eval (.tmp m2) = .bool c := by
        obtain ⟨ed, hed, hbd, hon⟩ := e4g
        have hl := hd ed hed hbd
        rw [hon] at hl
        exact hI.vs (2, m2, _) (by simp) hl
      have uq : aa.eval (.tmp q) = if c then .pointer (some ⟨g1, off, none⟩) else undef := by
        obtain ⟨ed, hed, hbd, hon⟩ := e4
        have hl := hd ed hed hbd
        rw [hon] at hl
        exact hI.vs (3, q, if c then .pointer (some ⟨g1, off, none⟩) else undef) (by simp) hl
      cases c with
      | false => exact wpOp_off ho (wanted_of rfl (yielded_of (d := m2) rfl um)) (hI.put hfit 4 l undef (by simp) hI.wp)
      | true =>
        refine wpOp_go ho (wanted_of rfl (yielded_of (d := m2) rfl um)) l rfl va ww ?_ (hI.put hfit 4 l _ (by simp) hI.wp)
        unfold execOp
        rw [if_pos rfl] at uq
        simp only [uq, Sem.run_bind, hld ww hI.wp, Result.andThen_ok, Sem.run_pure]
    | 5, ho =>
      obtain rfl := pick_op ho rfl
      have um : aa.eval (.tmp m2) = .bool c := by
        obtain ⟨ed, hed, hbd, hon⟩ := e5g
        have hl := hd ed hed hbd
        rw [hon] at hl
        exact hI.vs (2, m2, _) (by simp) hl
      have ul : aa.eval (.tmp l) = if c then va else undef := by
        obtain ⟨ed, hed, hbd, hon⟩ := e5
        have hl := hd ed hed hbd
        rw [hon] at hl
        exact hI.vs (4, l, if c then va else undef) (by simp) hl
      cases c with
      | false => exact wpOp_off ho (wanted_of rfl (yielded_of (d := m2) rfl um)) (hI.put hfit 5 b undef (by simp) hI.wp)
      | true =>
        rw [if_pos rfl] at ul
        refine wpOp_enter ho (wanted_of rfl (yielded_of (d := m2) rfl um)) b rfl fn #[va] ?_ (fun v w' => v = .bool e ∧ Below ww.heap.size ww w') ((hc ww hI.wp).mono fun _ _ h => ⟨_, h.1, rfl, h.2⟩) ?_
        · rw [execOp_call_go, hen]
          simp [ul]
        · rintro v w' ⟨rfl, hB⟩
          exact hI.put hfit 5 b _ (by simp) (hI.wp.call hB)
    | 6, ho =>
      obtain rfl := pick_op ho rfl
      have um : aa.eval (.tmp m2) = .bool c := by
        obtain ⟨ed, hed, hbd, hon⟩ := e6g
        have hl := hd ed hed hbd
        rw [hon] at hl
        exact hI.vs (2, m2, _) (by simp) hl
      have ub : aa.eval (.tmp b) = if c then .bool e else undef := by
        obtain ⟨ed, hed, hbd, hon⟩ := e6
        have hl := hd ed hed hbd
        rw [hon] at hl
        exact hI.vs (5, b, if c then .bool e else undef) (by simp) hl
      refine wpOp_go ho (wanted_none rfl _) r2 rfl (.bool (c && e)) ww ?_ (hI.put hfit 6 r2 _ (by simp) hI.wp)
      unfold execOp
      simp only [um]
      cases c with
      | false => rfl
      | true =>
        rw [if_pos rfl] at ub
        rw [ub]
        rfl
    | 7, ho =>
      obtain rfl := pick_op ho rfl
      have ux : aa.eval (.tmp x) = .agg L2.toArray := by
        obtain ⟨ed, hed, hbd, hon⟩ := e7
        have hl := hd ed hed hbd
        rw [hon] at hl
        exact hI.vs (0, x, _) (by simp) hl
      exact wpOp_store_cells ho (wanted_none rfl _) rfl T _ _ rfl g2 u2 L2 ux hI.wp.c2 m hn hl2 hl2 ho2 (fun w' hg hs' hC => hI.mute 7 (by simp) (hI.wp.store hg hs' hC))
    | 8, ho =>
      obtain rfl := pick_op ho rfl
      have ur : aa.eval (.tmp r2) = .bool (c && e) := by
        obtain ⟨ed, hed, hbd, hon⟩ := e8
        have hl := hd ed hed hbd
        rw [hon] at hl
        exact hI.vs (6, r2, _) (by simp) hl
      exact wpOp_go ho (wanted_none rfl _) r rfl (.bool (c && e)) ww (by rw [← ur]; rfl) (hI.put hfit 8 r _ (by simp) hI.wp)
    | (k + 9), ho => simp at ho
  · intro listed aa ww hall hI
    exact hfin aa ww hI.df (hI.fx (2, _) (by simp)) (hI.vs (8, r, _) (by simp) (hall 8 (by simp))) hI.wp
  · refine ⟨hsz, hdf, ?_, ?_, hT.drew⟩
    · intro f hf
      simp only [List.mem_cons, List.not_mem_nil, or_false] at hf
      rcases hf with rfl | rfl | rfl
      · exact h1
      · exact h2
      · exact h4
    · intro t ht hl
      rw [none_ran] at hl
      cases hl
end
end Go.Proofs.YtkcdkjpmbjcmdaaDoor

/-
  'return o, within(p.Code, 0, 5) && (!p.Present || p.Code == 0)' in a region that draws.
-/
namespace Go.Proofs.YtkcdkjpmbjcmdaaDoor
open Go.RowKit

theorem wantedf_of {o : Oper} {j : Nat} (h : o.guard = some (j, false)) {y : Nat → Option Bool} {b : Bool} (hy : y j = some b) : Region.wanted o y = !b := by
  simp only [Region.wanted, h, hy]
  cases b <;> rfl
theorem wantedf_undef {o : Oper} {j : Nat} (h : o.guard = some (j, false)) {y : Nat → Option Bool} (hy : y j = none) : Region.wanted o y = false := by
  simp only [Region.wanted, h, hy]
  rfl
theorem yielded_undef {ops : Array Oper} {a : Act} {j d : Nat} (hj : (ops[j]?).bind (·.dst) = some d) (h : a.eval (.tmp d) = undef) : yielded ops a.tmps j = none := by
  simp only [Act.eval, Array.getD_eq_getD_getElem?] at h
  simp only [yielded, hj, Option.bind_some]
  cases e : a.tmps[d]? with
  | none => rfl
  | some v =>
    rw [e, Option.getD_some] at h
    rw [h]
    rfl

section
variable {P : Program} {Q : Exit → Act → World → Prop} {a : Act} {w W : World} {id n B g1 g2 x a1 a2 a3 a4 a5 b1 b2 b3 b4 b5 d1 d2 d3 r T TI TI' TB fc fp oc op : Nat} {L1 L2 : List Value} {fn : FuncId} {ats : Array TypeId} {c p : Bool} {code : Int}
  {y0 y1 y2 y3 y4 y5 y6 y7 y8 y9 y10 y11 y12 y13 y14 y15 : TypeId} {p0 p1 p2 p3 p4 p5 p6 p7 p8 p9 p10 p11 p12 p13 p14 p15 : String} {f0 f1 f2 f3 f4 f5 f6 f7 f8 f9 f10 f11 f12 f13 f14 f15 : Array Edge}
set_option maxHeartbeats 3200000 in
theorem region_keepC (hm : P.follows .mixedOrders = true) (hsz : a.tmps.size = n) (hdf : a.defers = []) (h1 : a.eval (.tmp 1) = .pointer (some ⟨g1, 0, none⟩)) (h2 : a.eval (.tmp 2) = .pointer (some ⟨g2, 0, none⟩))
    (hT : Two W B g1 g2 L1 L2 w) (hfit : fits n [(1, .pointer (some ⟨g1, 0, none⟩)), (2, .pointer (some ⟨g2, 0, none⟩))] [(0, x, .agg L2.toArray), (1, a1, .pointer (some ⟨g1, oc, none⟩)), (2, a2, .int .i64 code), (3, a3, .bool c), (4, a4, .bool c), (5, b1, if c then .pointer (some ⟨g1, op, none⟩) else undef), (6, b2, if c then .bool p else undef), (7, b3, if c then .bool (!p) else undef), (8, b4, if c then .bool (!p) else undef), (9, d1, if c && p then .pointer (some ⟨g1, oc, none⟩) else undef), (10, d2, if c && p then .int .i64 code else undef), (11, d3, if c && p then .bool (code == 0) else undef), (12, b5, if c then .bool (!p || code == 0) else undef), (13, a5, .bool (c && (!p || code == 0))), (15, r, .bool (c && (!p || code == 0)))] = true)
    (hback : ∀ (i : Nat) (o : Oper), (#[⟨some x, .load T (.tmp 2), y0, p0, f0, none⟩, ⟨some a1, .fieldAddr T (.tmp 1) fc, y1, p1, f1, none⟩, ⟨some a2, .load TI (.tmp a1), y2, p2, f2, none⟩, ⟨some a3, .call { callee := .value (.func fn), args := #[.tmp a2, .const (.int .i64 0), .const (.int .i64 5)], argTypes := ats }, y3, p3, f3, none⟩, ⟨some a4, .move (.tmp a3), y4, p4, f4, none⟩, ⟨some b1, .fieldAddr T (.tmp 1) fp, y5, p5, f5, some (4, true)⟩, ⟨some b2, .load TB (.tmp b1), y6, p6, f6, some (4, true)⟩, ⟨some b3, .unOp .not TB (.tmp b2), y7, p7, f7, some (4, true)⟩, ⟨some b4, .move (.tmp b3), y8, p8, f8, some (4, true)⟩, ⟨some d1, .fieldAddr T (.tmp 1) fc, y9, p9, f9, some (8, false)⟩, ⟨some d2, .load TI (.tmp d1), y10, p10, f10, some (8, false)⟩, ⟨some d3, .binOp .eql TI (.tmp d2) (.const (.int .i64 0)) TI', y11, p11, f11, some (8, false)⟩, ⟨some b5, .pick (.tmp b4) (.const (.bool true)) (.tmp d3), y12, p12, f12, some (4, true)⟩, ⟨some a5, .pick (.tmp a4) (.tmp b5) (.const (.bool false)), y13, p13, f13, none⟩, ⟨none, .store T (.tmp 2) (.tmp x), y14, p14, f14, none⟩, ⟨some r, .assign (.tmp a5), y15, p15, f15, none⟩] : Array Oper)[i]? = some o → ∀ e ∈ o.after, Region.binds .any e = true → e.on < i)
    (e2_1 : ∃ e ∈ f2, Region.binds .any e = true ∧ e.on = 1) (e3_2 : ∃ e ∈ f3, Region.binds .any e = true ∧ e.on = 2) (e4_3 : ∃ e ∈ f4, Region.binds .any e = true ∧ e.on = 3) (e5_4 : ∃ e ∈ f5, Region.binds .any e = true ∧ e.on = 4) (e6_4 : ∃ e ∈ f6, Region.binds .any e = true ∧ e.on = 4) (e6_5 : ∃ e ∈ f6, Region.binds .any e = true ∧ e.on = 5) (e7_4 : ∃ e ∈ f7, Region.binds .any e = true ∧ e.on = 4) (e7_6 : ∃ e ∈ f7, Region.binds .any e = true ∧ e.on = 6) (e8_4 : ∃ e ∈ f8, Region.binds .any e = true ∧ e.on = 4) (e8_7 : ∃ e ∈ f8, Region.binds .any e = true ∧ e.on = 7) (e9_8 : ∃ e ∈ f9, Region.binds .any e = true ∧ e.on = 8) (e10_8 : ∃ e ∈ f10, Region.binds .any e = true ∧ e.on = 8) (e10_9 : ∃ e ∈ f10, Region.binds .any e = true ∧ e.on = 9) (e11_8 : ∃ e ∈ f11, Region.binds .any e = true ∧ e.on = 8) (e11_10 : ∃ e ∈ f11, Region.binds .any e = true ∧ e.on = 10) (e12_4 : ∃ e ∈ f12, Region.binds .any e = true ∧ e.on = 4) (e12_8 : ∃ e ∈ f12, Region.binds .any e = true ∧ e.on = 8) (e12_11 : ∃ e ∈ f12, Region.binds .any e = true ∧ e.on = 11) (e13_4 : ∃ e ∈ f13, Region.binds .any e = true ∧ e.on = 4) (e13_12 : ∃ e ∈ f13, Region.binds .any e = true ∧ e.on = 12) (e14_0 : ∃ e ∈ f14, Region.binds .any e = true ∧ e.on = 0) (e15_13 : ∃ e ∈ f15, Region.binds .any e = true ∧ e.on = 13)
    (du : TypeDesc) (hu : P.underlying T = some du) (hr : du.isRow = true) (m : Nat) (hn : (P.info? T).map (·.size) = some m) (hl2 : L2.length = m) (ho2 : L2.all (·.oneCell') = true)
    (hfc : ∀ g w, (Instr.fieldAt T (.pointer (some ⟨g, 0, none⟩)) fc).run P w = .ok (.pointer (some ⟨g, oc, none⟩)) w)
    (hfp : ∀ g w, (Instr.fieldAt T (.pointer (some ⟨g, 0, none⟩)) fp).run P w = .ok (.pointer (some ⟨g, op, none⟩)) w)
    (hlc : ∀ w', Two W B g1 g2 L1 L2 w' → (Instr.loadAt TI (.pointer (some ⟨g1, oc, none⟩))).run P w' = .ok (.int .i64 code) w')
    (hlp : ∀ w', Two W B g1 g2 L1 L2 w' → (Instr.loadAt TB (.pointer (some ⟨g1, op, none⟩))).run P w' = .ok (.bool p) w')
    (heq : ∀ w' x y, (do eqGuard .eql TI x y (.int .i64 code) (.int .i64 0); binOp .eql TI (.int .i64 code) (.int .i64 0) : Sem Value).run P w' = .ok (.bool (code == 0)) w')
    (hen : ∀ (args : Array Value) (w : World), (callFunc fn args).run P w = .ok (.enter fn args) w)
    (hc : ∀ w', Two W B g1 g2 L1 L2 w' → Calls P fn #[.int .i64 code, .int .i64 0, .int .i64 5] w' fun z w'' => z = .returned (.bool c) ∧ Below w'.heap.size w' w'')
    (hfin : ∀ a' w', a'.defers = [] → a'.eval (.tmp 2) = .pointer (some ⟨g2, 0, none⟩) → a'.eval (.tmp r) = .bool (c && (!p || code == 0)) → Two W B g1 g2 L1 L2 w' → Q .normal a' w') :
    (Code.region id #[⟨some x, .load T (.tmp 2), y0, p0, f0, none⟩, ⟨some a1, .fieldAddr T (.tmp 1) fc, y1, p1, f1, none⟩, ⟨some a2, .load TI (.tmp a1), y2, p2, f2, none⟩, ⟨some a3, .call { callee := .value (.func fn), args := #[.tmp a2, .const (.int .i64 0), .const (.int .i64 5)], argTypes := ats }, y3, p3, f3, none⟩, ⟨some a4, .move (.tmp a3), y4, p4, f4, none⟩, ⟨some b1, .fieldAddr T (.tmp 1) fp, y5, p5, f5, some (4, true)⟩, ⟨some b2, .load TB (.tmp b1), y6, p6, f6, some (4, true)⟩, ⟨some b3, .unOp .not TB (.tmp b2), y7, p7, f7, some (4, true)⟩, ⟨some b4, .move (.tmp b3), y8, p8, f8, some (4, true)⟩, ⟨some d1, .fieldAddr T (.tmp 1) fc, y9, p9, f9, some (8, false)⟩, ⟨some d2, .load TI (.tmp d1), y10, p10, f10, some (8, false)⟩, ⟨some d3, .binOp .eql TI (.tmp d2) (.const (.int .i64 0)) TI', y11, p11, f11, some (8, false)⟩, ⟨some b5, .pick (.tmp b4) (.const (.bool true)) (.tmp d3), y12, p12, f12, some (4, true)⟩, ⟨some a5, .pick (.tmp a4) (.tmp b5) (.const (.bool false)), y13, p13, f13, none⟩, ⟨none, .store T (.tmp 2) (.tmp x), y14, p14, f14, none⟩, ⟨some r, .assign (.tmp a5), y15, p15, f15, none⟩] true).wp P Q a w := by
  refine wp_region_inv hm (Inv n [(1, .pointer (some ⟨g1, 0, none⟩)), (2, .pointer (some ⟨g2, 0, none⟩))] [(0, x, .agg L2.toArray), (1, a1, .pointer (some ⟨g1, oc, none⟩)), (2, a2, .int .i64 code), (3, a3, .bool c), (4, a4, .bool c), (5, b1, if c then .pointer (some ⟨g1, op, none⟩) else undef), (6, b2, if c then .bool p else undef), (7, b3, if c then .bool (!p) else undef), (8, b4, if c then .bool (!p) else undef), (9, d1, if c && p then .pointer (some ⟨g1, oc, none⟩) else undef), (10, d2, if c && p then .int .i64 code else undef), (11, d3, if c && p then .bool (code == 0) else undef), (12, b5, if c then .bool (!p || code == 0) else undef), (13, a5, .bool (c && (!p || code == 0))), (15, r, .bool (c && (!p || code == 0)))] (Two W B g1 g2 L1 L2)) hback ?_ ?_ ?_
  · intro listed aa ww i o hs ho hd hI
    have v1 : aa.eval (.tmp 1) = .pointer (some ⟨g1, 0, none⟩) := hI.fx (1, _) (by simp)
    have v2 : aa.eval (.tmp 2) = .pointer (some ⟨g2, 0, none⟩) := hI.fx (2, _) (by simp)
    match i, ho with
    | 0, ho =>
      obtain rfl := pick_op ho rfl
      exact wpOp_load_cells ho (wanted_none rfl _) x rfl T _ rfl g2 v2 hI.wp.c2 du hu hr m hn hl2 (hI.put hfit 0 x _ (by simp) hI.wp)
    | 1, ho =>
      obtain rfl := pick_op ho rfl
      refine wpOp_go ho (wanted_none rfl _) a1 rfl (.pointer (some ⟨g1, oc, none⟩)) ww ?_ (hI.put hfit 1 a1 _ (by simp) hI.wp)
      unfold execOp
      simp only [v1, Sem.run_bind, hfc, Result.andThen_ok, Sem.run_pure]
    | 2, ho =>
      obtain rfl := pick_op ho rfl
      have u1 : aa.eval (.tmp a1) = .pointer (some ⟨g1, oc, none⟩) := by
        obtain ⟨ed, hed, hbd, hon⟩ := e2_1
        have hl := hd ed hed hbd
        rw [hon] at hl
        exact hI.vs (1, a1, .pointer (some ⟨g1, oc, none⟩)) (by simp) hl
      refine wpOp_go ho (wanted_none rfl _) a2 rfl (.int .i64 code) ww ?_ (hI.put hfit 2 a2 _ (by simp) hI.wp)
      unfold execOp
      simp only [u1, Sem.run_bind, hlc ww hI.wp, Result.andThen_ok, Sem.run_pure]
    | 3, ho =>
      obtain rfl := pick_op ho rfl
      have u2 : aa.eval (.tmp a2) = .int .i64 code := by
        obtain ⟨ed, hed, hbd, hon⟩ := e3_2
        have hl := hd ed hed hbd
        rw [hon] at hl
        exact hI.vs (2, a2, .int .i64 code) (by simp) hl
      refine wpOp_enter ho (wanted_none rfl _) a3 rfl fn #[.int .i64 code, .int .i64 0, .int .i64 5] ?_ (fun v w' => v = .bool c ∧ Below ww.heap.size ww w') ((hc ww hI.wp).mono fun _ _ h => ⟨_, h.1, rfl, h.2⟩) ?_
      · rw [execOp_call_go, hen]
        simp only [List.map_toArray, List.map_cons, List.map_nil, u2]
        rfl
      · rintro v w' ⟨rfl, hB⟩
        exact hI.put hfit 3 a3 _ (by simp) (hI.wp.call hB)
    | 4, ho =>
      obtain rfl := pick_op ho rfl
      have u3 : aa.eval (.tmp a3) = .bool c := by
        obtain ⟨ed, hed, hbd, hon⟩ := e4_3
        have hl := hd ed hed hbd
        rw [hon] at hl
        exact hI.vs (3, a3, .bool c) (by simp) hl
      exact wpOp_go ho (wanted_none rfl _) a4 rfl (.bool c) ww (by rw [← u3]; rfl) (hI.put hfit 4 a4 _ (by simp) hI.wp)
    | 5, ho =>
      obtain rfl := pick_op ho rfl
      have u4 : aa.eval (.tmp a4) = .bool c := by
        obtain ⟨ed, hed, hbd, hon⟩ := e5_4
        have hl := hd ed hed hbd
        rw [hon] at hl
        exact hI.vs (4, a4, .bool c) (by simp) hl
      cases c with
      | false => exact wpOp_off ho (wanted_of rfl (yielded_of (d := a4) rfl u4)) (hI.put hfit 5 b1 undef (by simp) hI.wp)
      | true =>
        have hw := wanted_of (o := ⟨some b1, .fieldAddr T (.tmp 1) fp, y5, p5, f5, some (4, true)⟩) rfl (yielded_of (ops := #[⟨some x, .load T (.tmp 2), y0, p0, f0, none⟩, ⟨some a1, .fieldAddr T (.tmp 1) fc, y1, p1, f1, none⟩, ⟨some a2, .load TI (.tmp a1), y2, p2, f2, none⟩, ⟨some a3, .call { callee := .value (.func fn), args := #[.tmp a2, .const (.int .i64 0), .const (.int .i64 5)], argTypes := ats }, y3, p3, f3, none⟩, ⟨some a4, .move (.tmp a3), y4, p4, f4, none⟩, ⟨some b1, .fieldAddr T (.tmp 1) fp, y5, p5, f5, some (4, true)⟩, ⟨some b2, .load TB (.tmp b1), y6, p6, f6, some (4, true)⟩, ⟨some b3, .unOp .not TB (.tmp b2), y7, p7, f7, some (4, true)⟩, ⟨some b4, .move (.tmp b3), y8, p8, f8, some (4, true)⟩, ⟨some d1, .fieldAddr T (.tmp 1) fc, y9, p9, f9, some (8, false)⟩, ⟨some d2, .load TI (.tmp d1), y10, p10, f10, some (8, false)⟩, ⟨some d3, .binOp .eql TI (.tmp d2) (.const (.int .i64 0)) TI', y11, p11, f11, some (8, false)⟩, ⟨some b5, .pick (.tmp b4) (.const (.bool true)) (.tmp d3), y12, p12, f12, some (4, true)⟩, ⟨some a5, .pick (.tmp a4) (.tmp b5) (.const (.bool false)), y13, p13, f13, none⟩, ⟨none, .store T (.tmp 2) (.tmp x), y14, p14, f14, none⟩, ⟨some r, .assign (.tmp a5), y15, p15, f15, none⟩]) (j := 4) (d := a4) rfl u4)
        refine wpOp_go ho hw b1 rfl (.pointer (some ⟨g1, op, none⟩)) ww ?_ (hI.put hfit 5 b1 _ (by simp) hI.wp)
        unfold execOp
        simp only [v1, Sem.run_bind, hfp, Result.andThen_ok, Sem.run_pure]
    | 6, ho =>
      obtain rfl := pick_op ho rfl
      have u4 : aa.eval (.tmp a4) = .bool c := by
        obtain ⟨ed, hed, hbd, hon⟩ := e6_4
        have hl := hd ed hed hbd
        rw [hon] at hl
        exact hI.vs (4, a4, .bool c) (by simp) hl
      have u5 : aa.eval (.tmp b1) = if c then .pointer (some ⟨g1, op, none⟩) else undef := by
        obtain ⟨ed, hed, hbd, hon⟩ := e6_5
        have hl := hd ed hed hbd
        rw [hon] at hl
        exact hI.vs (5, b1, if c then .pointer (some ⟨g1, op, none⟩) else undef) (by simp) hl
      cases c with
      | false => exact wpOp_off ho (wanted_of rfl (yielded_of (d := a4) rfl u4)) (hI.put hfit 6 b2 undef (by simp) hI.wp)
      | true =>
        have hw := wanted_of (o := ⟨some b2, .load TB (.tmp b1), y6, p6, f6, some (4, true)⟩) rfl (yielded_of (ops := #[⟨some x, .load T (.tmp 2), y0, p0, f0, none⟩, ⟨some a1, .fieldAddr T (.tmp 1) fc, y1, p1, f1, none⟩, ⟨some a2, .load TI (.tmp a1), y2, p2, f2, none⟩, ⟨some a3, .call { callee := .value (.func fn), args := #[.tmp a2, .const (.int .i64 0), .const (.int .i64 5)], argTypes := ats }, y3, p3, f3, none⟩, ⟨some a4, .move (.tmp a3), y4, p4, f4, none⟩, ⟨some b1, .fieldAddr T (.tmp 1) fp, y5, p5, f5, some (4, true)⟩, ⟨some b2, .load TB (.tmp b1), y6, p6, f6, some (4, true)⟩, ⟨some b3, .unOp .not TB (.tmp b2), y7, p7, f7, some (4, true)⟩, ⟨some b4, .move (.tmp b3), y8, p8, f8, some (4, true)⟩, ⟨some d1, .fieldAddr T (.tmp 1) fc, y9, p9, f9, some (8, false)⟩, ⟨some d2, .load TI (.tmp d1), y10, p10, f10, some (8, false)⟩, ⟨some d3, .binOp .eql TI (.tmp d2) (.const (.int .i64 0)) TI', y11, p11, f11, some (8, false)⟩, ⟨some b5, .pick (.tmp b4) (.const (.bool true)) (.tmp d3), y12, p12, f12, some (4, true)⟩, ⟨some a5, .pick (.tmp a4) (.tmp b5) (.const (.bool false)), y13, p13, f13, none⟩, ⟨none, .store T (.tmp 2) (.tmp x), y14, p14, f14, none⟩, ⟨some r, .assign (.tmp a5), y15, p15, f15, none⟩]) (j := 4) (d := a4) rfl u4)
        rw [if_pos rfl] at u5
        refine wpOp_go ho hw b2 rfl (.bool p) ww ?_ (hI.put hfit 6 b2 _ (by simp) hI.wp)
        unfold execOp
        simp only [u5, Sem.run_bind, hlp ww hI.wp, Result.andThen_ok, Sem.run_pure]
    | 7, ho =>
      obtain rfl := pick_op ho rfl
      have u4 : aa.eval (.tmp a4) = .bool c := by
        obtain ⟨ed, hed, hbd, hon⟩ := e7_4
        have hl := hd ed hed hbd
        rw [hon] at hl
        exact hI.vs (4, a4, .bool c) (by simp) hl
      have u6 : aa.eval (.tmp b2) = if c then .bool p else undef := by
        obtain ⟨ed, hed, hbd, hon⟩ := e7_6
        have hl := hd ed hed hbd
        rw [hon] at hl
        exact hI.vs (6, b2, if c then .bool p else undef) (by simp) hl
      cases c with
      | false => exact wpOp_off ho (wanted_of rfl (yielded_of (d := a4) rfl u4)) (hI.put hfit 7 b3 undef (by simp) hI.wp)
      | true =>
        have hw := wanted_of (o := ⟨some b3, .unOp .not TB (.tmp b2), y7, p7, f7, some (4, true)⟩) rfl (yielded_of (ops := #[⟨some x, .load T (.tmp 2), y0, p0, f0, none⟩, ⟨some a1, .fieldAddr T (.tmp 1) fc, y1, p1, f1, none⟩, ⟨some a2, .load TI (.tmp a1), y2, p2, f2, none⟩, ⟨some a3, .call { callee := .value (.func fn), args := #[.tmp a2, .const (.int .i64 0), .const (.int .i64 5)], argTypes := ats }, y3, p3, f3, none⟩, ⟨some a4, .move (.tmp a3), y4, p4, f4, none⟩, ⟨some b1, .fieldAddr T (.tmp 1) fp, y5, p5, f5, some (4, true)⟩, ⟨some b2, .load TB (.tmp b1), y6, p6, f6, some (4, true)⟩, ⟨some b3, .unOp .not TB (.tmp b2), y7, p7, f7, some (4, true)⟩, ⟨some b4, .move (.tmp b3), y8, p8, f8, some (4, true)⟩, ⟨some d1, .fieldAddr T (.tmp 1) fc, y9, p9, f9, some (8, false)⟩, ⟨some d2, .load TI (.tmp d1), y10, p10, f10, some (8, false)⟩, ⟨some d3, .binOp .eql TI (.tmp d2) (.const (.int .i64 0)) TI', y11, p11, f11, some (8, false)⟩, ⟨some b5, .pick (.tmp b4) (.const (.bool true)) (.tmp d3), y12, p12, f12, some (4, true)⟩, ⟨some a5, .pick (.tmp a4) (.tmp b5) (.const (.bool false)), y13, p13, f13, none⟩, ⟨none, .store T (.tmp 2) (.tmp x), y14, p14, f14, none⟩, ⟨some r, .assign (.tmp a5), y15, p15, f15, none⟩]) (j := 4) (d := a4) rfl u4)
        rw [if_pos rfl] at u6
        refine wpOp_go ho hw b3 rfl (.bool (!p)) ww ?_ (hI.put hfit 7 b3 _ (by simp) hI.wp)
        unfold execOp
        simp only [u6]
        rfl
    | 8, ho =>
      obtain rfl := pick_op ho rfl
      have u4 : aa.eval (.tmp a4) = .bool c := by
        obtain ⟨ed, hed, hbd, hon⟩ := e8_4
        have hl := hd ed hed hbd
        rw [hon] at hl
        exact hI.vs (4, a4, .bool c) (by simp) hl
      have u7 : aa.eval (.tmp b3) = if c then .bool (!p) else undef := by
        obtain ⟨ed, hed, hbd, hon⟩ := e8_7
        have hl := hd ed hed hbd
        rw [hon] at hl
        exact hI.vs (7, b3, if c then .bool (!p) else undef) (by simp) hl
      cases c with
      | false => exact wpOp_off ho (wanted_of rfl (yielded_of (d := a4) rfl u4)) (hI.put hfit 8 b4 undef (by simp) hI.wp)
      | true =>
        have hw := wanted_of (o := ⟨some b4, .move (.tmp b3), y8, p8, f8, some (4, true)⟩) rfl (yielded_of (ops := #[⟨some x, .load T (.tmp 2), y0, p0, f0, none⟩, ⟨some a1, .fieldAddr T (.tmp 1) fc, y1, p1, f1, none⟩, ⟨some a2, .load TI (.tmp a1), y2, p2, f2, none⟩, ⟨some a3, .call { callee := .value (.func fn), args := #[.tmp a2, .const (.int .i64 0), .const (.int .i64 5)], argTypes := ats }, y3, p3, f3, none⟩, ⟨some a4, .move (.tmp a3), y4, p4, f4, none⟩, ⟨some b1, .fieldAddr T (.tmp 1) fp, y5, p5, f5, some (4, true)⟩, ⟨some b2, .load TB (.tmp b1), y6, p6, f6, some (4, true)⟩, ⟨some b3, .unOp .not TB (.tmp b2), y7, p7, f7, some (4, true)⟩, ⟨some b4, .move (.tmp b3), y8, p8, f8, some (4, true)⟩, ⟨some d1, .fieldAddr T (.tmp 1) fc, y9, p9, f9, some (8, false)⟩, ⟨some d2, .load TI (.tmp d1), y10, p10, f10, some (8, false)⟩, ⟨some d3, .binOp .eql TI (.tmp d2) (.const (.int .i64 0)) TI', y11, p11, f11, some (8, false)⟩, ⟨some b5, .pick (.tmp b4) (.const (.bool true)) (.tmp d3), y12, p12, f12, some (4, true)⟩, ⟨some a5, .pick (.tmp a4) (.tmp b5) (.const (.bool false)), y13, p13, f13, none⟩, ⟨none, .store T (.tmp 2) (.tmp x), y14, p14, f14, none⟩, ⟨some r, .assign (.tmp a5), y15, p15, f15, none⟩]) (j := 4) (d := a4) rfl u4)
        rw [if_pos rfl] at u7
        exact wpOp_go ho hw b4 rfl (.bool (!p)) ww (by rw [← u7]; rfl) (hI.put hfit 8 b4 _ (by simp) hI.wp)
    | 9, ho =>
      obtain rfl := pick_op ho rfl
      have u8 : aa.eval (.tmp b4) = if c then .bool (!p) else undef := by
        obtain ⟨ed, hed, hbd, hon⟩ := e9_8
        have hl := hd ed hed hbd
        rw [hon] at hl
        exact hI.vs (8, b4, if c then .bool (!p) else undef) (by simp) hl
      cases c with
      | false =>
        rw [if_neg (by decide)] at u8
        exact wpOp_off ho (wantedf_undef rfl (yielded_undef (d := b4) rfl u8)) (hI.put hfit 9 d1 undef (by simp) hI.wp)
      | true =>
        rw [if_pos rfl] at u8
        cases p with
        | false => exact wpOp_off ho (wantedf_of rfl (yielded_of (d := b4) rfl u8)) (hI.put hfit 9 d1 undef (by simp) hI.wp)
        | true =>
          have hw := wantedf_of (o := ⟨some d1, .fieldAddr T (.tmp 1) fc, y9, p9, f9, some (8, false)⟩) rfl (yielded_of (ops := #[⟨some x, .load T (.tmp 2), y0, p0, f0, none⟩, ⟨some a1, .fieldAddr T (.tmp 1) fc, y1, p1, f1, none⟩, ⟨some a2, .load TI (.tmp a1), y2, p2, f2, none⟩, ⟨some a3, .call { callee := .value (.func fn), args := #[.tmp a2, .const (.int .i64 0), .const (.int .i64 5)], argTypes := ats }, y3, p3, f3, none⟩, ⟨some a4, .move (.tmp a3), y4, p4, f4, none⟩, ⟨some b1, .fieldAddr T (.tmp 1) fp, y5, p5, f5, some (4, true)⟩, ⟨some b2, .load TB (.tmp b1), y6, p6, f6, some (4, true)⟩, ⟨some b3, .unOp .not TB (.tmp b2), y7, p7, f7, some (4, true)⟩, ⟨some b4, .move (.tmp b3), y8, p8, f8, some (4, true)⟩, ⟨some d1, .fieldAddr T (.tmp 1) fc, y9, p9, f9, some (8, false)⟩, ⟨some d2, .load TI (.tmp d1), y10, p10, f10, some (8, false)⟩, ⟨some d3, .binOp .eql TI (.tmp d2) (.const (.int .i64 0)) TI', y11, p11, f11, some (8, false)⟩, ⟨some b5, .pick (.tmp b4) (.const (.bool true)) (.tmp d3), y12, p12, f12, some (4, true)⟩, ⟨some a5, .pick (.tmp a4) (.tmp b5) (.const (.bool false)), y13, p13, f13, none⟩, ⟨none, .store T (.tmp 2) (.tmp x), y14, p14, f14, none⟩, ⟨some r, .assign (.tmp a5), y15, p15, f15, none⟩]) (j := 8) (d := b4) rfl u8)
          refine wpOp_go ho hw d1 rfl (.pointer (some ⟨g1, oc, none⟩)) ww ?_ (hI.put hfit 9 d1 _ (by simp) hI.wp)
          unfold execOp
          simp only [v1, Sem.run_bind, hfc, Result.andThen_ok, Sem.run_pure]
    | 10, ho =>
      obtain rfl := pick_op ho rfl
      have u8 : aa.eval (.tmp b4) = if c then .bool (!p) else undef := by
        obtain ⟨ed, hed, hbd, hon⟩ := e10_8
        have hl := hd ed hed hbd
        rw [hon] at hl
        exact hI.vs (8, b4, if c then .bool (!p) else undef) (by simp) hl
      have u9 : aa.eval (.tmp d1) = if c && p then .pointer (some ⟨g1, oc, none⟩) else undef := by
        obtain ⟨ed, hed, hbd, hon⟩ := e10_9
        have hl := hd ed hed hbd
        rw [hon] at hl
        exact hI.vs (9, d1, if c && p then .pointer (some ⟨g1, oc, none⟩) else undef) (by simp) hl
      cases c with
      | false =>
        rw [if_neg (by decide)] at u8
        exact wpOp_off ho (wantedf_undef rfl (yielded_undef (d := b4) rfl u8)) (hI.put hfit 10 d2 undef (by simp) hI.wp)
      | true =>
        rw [if_pos rfl] at u8
        cases p with
        | false => exact wpOp_off ho (wantedf_of rfl (yielded_of (d := b4) rfl u8)) (hI.put hfit 10 d2 undef (by simp) hI.wp)
        | true =>
          have hw := wantedf_of (o := ⟨some d2, .load TI (.tmp d1), y10, p10, f10, some (8, false)⟩) rfl (yielded_of (ops := #[⟨some x, .load T (.tmp 2), y0, p0, f0, none⟩, ⟨some a1, .fieldAddr T (.tmp 1) fc, y1, p1, f1, none⟩, ⟨some a2, .load TI (.tmp a1), y2, p2, f2, none⟩, ⟨some a3, .call { callee := .value (.func fn), args := #[.tmp a2, .const (.int .i64 0), .const (.int .i64 5)], argTypes := ats }, y3, p3, f3, none⟩, ⟨some a4, .move (.tmp a3), y4, p4, f4, none⟩, ⟨some b1, .fieldAddr T (.tmp 1) fp, y5, p5, f5, some (4, true)⟩, ⟨some b2, .load TB (.tmp b1), y6, p6, f6, some (4, true)⟩, ⟨some b3, .unOp .not TB (.tmp b2), y7, p7, f7, some (4, true)⟩, ⟨some b4, .move (.tmp b3), y8, p8, f8, some (4, true)⟩, ⟨some d1, .fieldAddr T (.tmp 1) fc, y9, p9, f9, some (8, false)⟩, ⟨some d2, .load TI (.tmp d1), y10, p10, f10, some (8, false)⟩, ⟨some d3, .binOp .eql TI (.tmp d2) (.const (.int .i64 0)) TI', y11, p11, f11, some (8, false)⟩, ⟨some b5, .pick (.tmp b4) (.const (.bool true)) (.tmp d3), y12, p12, f12, some (4, true)⟩, ⟨some a5, .pick (.tmp a4) (.tmp b5) (.const (.bool false)), y13, p13, f13, none⟩, ⟨none, .store T (.tmp 2) (.tmp x), y14, p14, f14, none⟩, ⟨some r, .assign (.tmp a5), y15, p15, f15, none⟩]) (j := 8) (d := b4) rfl u8)
          rw [if_pos (by rfl)] at u9
          refine wpOp_go ho hw d2 rfl (.int .i64 code) ww ?_ (hI.put hfit 10 d2 _ (by simp) hI.wp)
          unfold execOp
          simp only [u9, Sem.run_bind, hlc ww hI.wp, Result.andThen_ok, Sem.run_pure]
    | 11, ho =>
      obtain rfl := pick_op ho rfl
      have u8 : aa.eval (.tmp b4) = if c then .bool (!p) else undef := by
        obtain ⟨ed, hed, hbd, hon⟩ := e11_8
        have hl := hd ed hed hbd
        rw [hon] at hl
        exact hI.vs (8, b4, if c then .bool (!p) else undef) (by simp) hl
      have u10 : aa.eval (.tmp d2) = if c && p then .int .i64 code else undef := by
        obtain ⟨ed, hed, hbd, hon⟩ := e11_10
        have hl := hd ed hed hbd
        rw [hon] at hl
        exact hI.vs (10, d2, if c && p then .int .i64 code else undef) (by simp) hl
      cases c with
      | false =>
        rw [if_neg (by decide)] at u8
        exact wpOp_off ho (wantedf_undef rfl (yielded_undef (d := b4) rfl u8)) (hI.put hfit 11 d3 undef (by simp) hI.wp)
      | true =>
        rw [if_pos rfl] at u8
        cases p with
        | false => exact wpOp_off ho (wantedf_of rfl (yielded_of (d := b4) rfl u8)) (hI.put hfit 11 d3 undef (by simp) hI.wp)
        | true =>
          have hw := wantedf_of (o := ⟨some d3, .binOp .eql TI (.tmp d2) (.const (.int .i64 0)) TI', y11, p11, f11, some (8, false)⟩) rfl (yielded_of (ops := #[⟨some x, .load T (.tmp 2), y0, p0, f0, none⟩, ⟨some a1, .fieldAddr T (.tmp 1) fc, y1, p1, f1, none⟩, ⟨some a2, .load TI (.tmp a1), y2, p2, f2, none⟩, ⟨some a3, .call { callee := .value (.func fn), args := #[.tmp a2, .const (.int .i64 0), .const (.int .i64 5)], argTypes := ats }, y3, p3, f3, none⟩, ⟨some a4, .move (.tmp a3), y4, p4, f4, none⟩, ⟨some b1, .fieldAddr T (.tmp 1) fp, y5, p5, f5, some (4, true)⟩, ⟨some b2, .load TB (.tmp b1), y6, p6, f6, some (4, true)⟩, ⟨some b3, .unOp .not TB (.tmp b2), y7, p7, f7, some (4, true)⟩, ⟨some b4, .move (.tmp b3), y8, p8, f8, some (4, true)⟩, ⟨some d1, .fieldAddr T (.tmp 1) fc, y9, p9, f9, some (8, false)⟩, ⟨some d2, .load TI (.tmp d1), y10, p10, f10, some (8, false)⟩, ⟨some d3, .binOp .eql TI (.tmp d2) (.const (.int .i64 0)) TI', y11, p11, f11, some (8, false)⟩, ⟨some b5, .pick (.tmp b4) (.const (.bool true)) (.tmp d3), y12, p12, f12, some (4, true)⟩, ⟨some a5, .pick (.tmp a4) (.tmp b5) (.const (.bool false)), y13, p13, f13, none⟩, ⟨none, .store T (.tmp 2) (.tmp x), y14, p14, f14, none⟩, ⟨some r, .assign (.tmp a5), y15, p15, f15, none⟩]) (j := 8) (d := b4) rfl u8)
          rw [if_pos (by rfl)] at u10
          refine wpOp_go ho hw d3 rfl (.bool (code == 0)) ww ?_ (hI.put hfit 11 d3 _ (by simp) hI.wp)
          unfold execOp
          have hq := heq ww (.tmp d2) (.const (.int .i64 0))
          rw [Sem.run_bind] at hq
          have hk : aa.eval (.const (.int .i64 0)) = .int .i64 0 := rfl
          simp only [u10, hk, Sem.run_bind, hq, Result.andThen_ok, Sem.run_pure]
    | 12, ho =>
      obtain rfl := pick_op ho rfl
      have u4 : aa.eval (.tmp a4) = .bool c := by
        obtain ⟨ed, hed, hbd, hon⟩ := e12_4
        have hl := hd ed hed hbd
        rw [hon] at hl
        exact hI.vs (4, a4, .bool c) (by simp) hl
      have u8 : aa.eval (.tmp b4) = if c then .bool (!p) else undef := by
        obtain ⟨ed, hed, hbd, hon⟩ := e12_8
        have hl := hd ed hed hbd
        rw [hon] at hl
        exact hI.vs (8, b4, if c then .bool (!p) else undef) (by simp) hl
      have u11 : aa.eval (.tmp d3) = if c && p then .bool (code == 0) else undef := by
        obtain ⟨ed, hed, hbd, hon⟩ := e12_11
        have hl := hd ed hed hbd
        rw [hon] at hl
        exact hI.vs (11, d3, if c && p then .bool (code == 0) else undef) (by simp) hl
      cases c with
      | false => exact wpOp_off ho (wanted_of rfl (yielded_of (d := a4) rfl u4)) (hI.put hfit 12 b5 undef (by simp) hI.wp)
      | true =>
        have hw := wanted_of (o := ⟨some b5, .pick (.tmp b4) (.const (.bool true)) (.tmp d3), y12, p12, f12, some (4, true)⟩) rfl (yielded_of (ops := #[⟨some x, .load T (.tmp 2), y0, p0, f0, none⟩, ⟨some a1, .fieldAddr T (.tmp 1) fc, y1, p1, f1, none⟩, ⟨some a2, .load TI (.tmp a1), y2, p2, f2, none⟩, ⟨some a3, .call { callee := .value (.func fn), args := #[.tmp a2, .const (.int .i64 0), .const (.int .i64 5)], argTypes := ats }, y3, p3, f3, none⟩, ⟨some a4, .move (.tmp a3), y4, p4, f4, none⟩, ⟨some b1, .fieldAddr T (.tmp 1) fp, y5, p5, f5, some (4, true)⟩, ⟨some b2, .load TB (.tmp b1), y6, p6, f6, some (4, true)⟩, ⟨some b3, .unOp .not TB (.tmp b2), y7, p7, f7, some (4, true)⟩, ⟨some b4, .move (.tmp b3), y8, p8, f8, some (4, true)⟩, ⟨some d1, .fieldAddr T (.tmp 1) fc, y9, p9, f9, some (8, false)⟩, ⟨some d2, .load TI (.tmp d1), y10, p10, f10, some (8, false)⟩, ⟨some d3, .binOp .eql TI (.tmp d2) (.const (.int .i64 0)) TI', y11, p11, f11, some (8, false)⟩, ⟨some b5, .pick (.tmp b4) (.const (.bool true)) (.tmp d3), y12, p12, f12, some (4, true)⟩, ⟨some a5, .pick (.tmp a4) (.tmp b5) (.const (.bool false)), y13, p13, f13, none⟩, ⟨none, .store T (.tmp 2) (.tmp x), y14, p14, f14, none⟩, ⟨some r, .assign (.tmp a5), y15, p15, f15, none⟩]) (j := 4) (d := a4) rfl u4)
        rw [if_pos rfl] at u8
        refine wpOp_go ho hw b5 rfl (.bool (!p || code == 0)) ww ?_ (hI.put hfit 12 b5 _ (by simp) hI.wp)
        unfold execOp
        simp only [u8]
        cases p with
        | false => rfl
        | true =>
          rw [if_pos (by rfl)] at u11
          rw [u11]
          rfl
    | 13, ho =>
      obtain rfl := pick_op ho rfl
      have u4 : aa.eval (.tmp a4) = .bool c := by
        obtain ⟨ed, hed, hbd, hon⟩ := e13_4
        have hl := hd ed hed hbd
        rw [hon] at hl
        exact hI.vs (4, a4, .bool c) (by simp) hl
      have u12 : aa.eval (.tmp b5) = if c then .bool (!p || code == 0) else undef := by
        obtain ⟨ed, hed, hbd, hon⟩ := e13_12
        have hl := hd ed hed hbd
        rw [hon] at hl
        exact hI.vs (12, b5, if c then .bool (!p || code == 0) else undef) (by simp) hl
      refine wpOp_go ho (wanted_none rfl _) a5 rfl (.bool (c && (!p || code == 0))) ww ?_ (hI.put hfit 13 a5 _ (by simp) hI.wp)
      unfold execOp
      simp only [u4]
      cases c with
      | false => rfl
      | true =>
        rw [if_pos rfl] at u12
        rw [u12]
        rfl
    | 14, ho =>
      obtain rfl := pick_op ho rfl
      have u0 : aa.eval (.tmp x) = .agg L2.toArray := by
        obtain ⟨ed, hed, hbd, hon⟩ := e14_0
        have hl := hd ed hed hbd
        rw [hon] at hl
        exact hI.vs (0, x, .agg L2.toArray) (by simp) hl
      exact wpOp_store_cells ho (wanted_none rfl _) rfl T _ _ rfl g2 v2 L2 u0 hI.wp.c2 m hn hl2 hl2 ho2 (fun w' hg hs' hC => hI.mute 14 (by simp) (hI.wp.store hg hs' hC))
    | 15, ho =>
      obtain rfl := pick_op ho rfl
      have u13 : aa.eval (.tmp a5) = .bool (c && (!p || code == 0)) := by
        obtain ⟨ed, hed, hbd, hon⟩ := e15_13
        have hl := hd ed hed hbd
        rw [hon] at hl
        exact hI.vs (13, a5, .bool (c && (!p || code == 0))) (by simp) hl
      exact wpOp_go ho (wanted_none rfl _) r rfl (.bool (c && (!p || code == 0))) ww (by rw [← u13]; rfl) (hI.put hfit 15 r _ (by simp) hI.wp)
    | (k + 16), ho => simp at ho
  · intro listed aa ww hall hI
    exact hfin aa ww hI.df (hI.fx (2, _) (by simp)) (hI.vs (15, r, _) (by simp) (hall 15 (by simp))) hI.wp
  · refine ⟨hsz, hdf, ?_, ?_, hT.drew⟩
    · intro f hf
      simp only [List.mem_cons, List.not_mem_nil, or_false] at hf
      rcases hf with rfl | rfl
      · exact h1
      · exact h2
    · intro t ht hl
      rw [none_ran] at hl
      cases hl
end
end Go.Proofs.YtkcdkjpmbjcmdaaDoor

/-
  'o.f, o.g = p.f, p.g' in a region that draws: fields of one struct stored into another one's.
-/
namespace Go.Proofs.YtkcdkjpmbjcmdaaDoor
open Go.RowKit

theorem Inv.put' {n : Nat} {fixed : List (Nat × Value)} {vals : List (Nat × Nat × Value)} {Wp Wp' : World → Prop} {listed : Array Bool} {a : Act} {w w' : World} (h : Inv n fixed vals Wp listed a w) (hf : fits n fixed vals = true)
    (i d : Nat) (v : Value) (ht : (i, d, v) ∈ vals) (hw : Wp' w') : Inv n fixed vals Wp' (listed.setIfInBounds i true) (a.put (some d) v) w' := by
  have h' : Inv n fixed vals (fun _ => True) listed a w := ⟨h.sz, h.df, h.fx, h.vs, trivial⟩
  have := h'.put (w' := w') hf i d v ht trivial
  exact ⟨this.sz, this.df, this.fx, this.vs, hw⟩
theorem Inv.mute' {n : Nat} {fixed : List (Nat × Value)} {vals : List (Nat × Nat × Value)} {Wp Wp' : World → Prop} {listed : Array Bool} {a : Act} {w w' : World} (h : Inv n fixed vals Wp listed a w)
    (i : Nat) (hi : vals.all (fun t => t.1 != i) = true) (hw : Wp' w') : Inv n fixed vals Wp' (listed.setIfInBounds i true) a w' := by
  have h' : Inv n fixed vals (fun _ => True) listed a w := ⟨h.sz, h.df, h.fx, h.vs, trivial⟩
  have := h'.mute (w' := w') i (fun t ht => by simpa using List.all_eq_true.1 hi t ht) trivial
  exact ⟨this.sz, this.df, this.fx, this.vs, hw⟩
/-- a cell of a list, written if .. -/
def setIf (b : Bool) (j : Nat) (v : Value) (l : List Value) : List Value := if b then l.set j v else l
theorem setIf_ne {b : Bool} {i j : Nat} (h : i ≠ j) (v u : Value) (l : List Value) : (setIf b j v l).set i u = setIf b j v (l.set i u) := by
  unfold setIf
  split
  · rw [List.set_comm _ _ (Ne.symm h)]
  · rfl
theorem setIf_same {b : Bool} (j : Nat) (v : Value) (l : List Value) : (setIf b j v l).set j v = setIf true j v l := by
  unfold setIf
  split
  · rw [List.set_set]; rfl
  · rfl
theorem setIf_length {b : Bool} {j : Nat} {v : Value} {l : List Value} : (setIf b j v l).length = l.length := by
  unfold setIf
  split <;> simp
theorem ran_ne (listed : Array Bool) {i k : Nat} (h : i ≠ k) : (listed.setIfInBounds i true).getD k false = listed.getD k false := getD_set_ne false h
theorem ran_same (listed : Array Bool) {i : Nat} (h : i < listed.size) : (listed.setIfInBounds i true).getD i false = true := by
  simp [h]
theorem nd_ne {l : List Nat} (h : l.Nodup) (i j : Nat) {x y : Nat} (hx : l[i]? = some x) (hy : l[j]? = some y) (hij : i ≠ j) : x ≠ y := by
  intro e
  subst e
  obtain ⟨a, ha⟩ := List.getElem?_eq_some_iff.1 hx
  obtain ⟨b, hb⟩ := List.getElem?_eq_some_iff.1 hy
  have := List.pairwise_iff_getElem.1 h
  rcases Nat.lt_or_ge i j with h1 | h1
  · exact this i j a b h1 (ha.trans hb.symm)
  · exact this j i b a (by omega) (hb.trans ha.symm)
theorem Two.set {W w : World} {B g1 g2 : Nat} {L1 L2 : List Value} (h : Two W B g1 g2 L1 L2 w) (j : Nat) (v : Value) (hj : j < L2.length) : Two W B g1 g2 L1 (L2.set j v) (w.setCell ⟨g2, j, none⟩ v) :=
  h.store (grown_setCell w g2 j v) (size_setCell' _ _ _) (h.c2.set j v hj)

section
variable {P : Program} {Q : Exit → Act → World → Prop} {a : Act} {w W : World} {id n s1 s2 s4 B g1 g2 T a0 l0 b0 T0 fi0 o0 a1 l1 b1 T1 fi1 o1 : Nat} {L1 L2 : List Value} {c : Value} {v0 v1 : Value}
  {y0 y1 y2 y3 y4 y5 y6 y7 : TypeId} {p0 p1 p2 p3 p4 p5 p6 p7 : String} {f0 f1 f2 f3 f4 f5 f6 f7 : Array Edge}
set_option maxHeartbeats 3200000 in
theorem region_copy2 (hm : P.follows .mixedOrders = true) (hsz : a.tmps.size = n) (hdf : a.defers = []) (h1 : a.eval (.tmp s1) = .pointer (some ⟨g1, 0, none⟩)) (h2 : a.eval (.tmp s2) = .pointer (some ⟨g2, 0, none⟩)) (h4 : a.eval (.tmp s4) = c)
    (hT : Two W B g1 g2 L1 L2 w) (hfit : fits n [(s1, .pointer (some ⟨g1, 0, none⟩)), (s2, .pointer (some ⟨g2, 0, none⟩)), (s4, c)] [(0, a0, .pointer (some ⟨g1, o0, none⟩)), (1, l0, v0), (2, a1, .pointer (some ⟨g1, o1, none⟩)), (3, l1, v1), (4, b0, .pointer (some ⟨g2, o0, none⟩)), (6, b1, .pointer (some ⟨g2, o1, none⟩))] = true)
    (hback : ∀ (i : Nat) (o : Oper), (#[⟨some a0, .fieldAddr T (.tmp s1) fi0, y0, p0, f0, none⟩, ⟨some l0, .load T0 (.tmp a0), y1, p1, f1, none⟩, ⟨some a1, .fieldAddr T (.tmp s1) fi1, y2, p2, f2, none⟩, ⟨some l1, .load T1 (.tmp a1), y3, p3, f3, none⟩, ⟨some b0, .fieldAddr T (.tmp s2) fi0, y4, p4, f4, none⟩, ⟨none, .store T0 (.tmp b0) (.tmp l0), y5, p5, f5, none⟩, ⟨some b1, .fieldAddr T (.tmp s2) fi1, y6, p6, f6, none⟩, ⟨none, .store T1 (.tmp b1) (.tmp l1), y7, p7, f7, none⟩] : Array Oper)[i]? = some o → ∀ e ∈ o.after, Region.binds .any e = true → e.on < i)
    (e1_0 : ∃ e ∈ f1, Region.binds .any e = true ∧ e.on = 0) (e3_2 : ∃ e ∈ f3, Region.binds .any e = true ∧ e.on = 2) (e5_4 : ∃ e ∈ f5, Region.binds .any e = true ∧ e.on = 4) (e7_6 : ∃ e ∈ f7, Region.binds .any e = true ∧ e.on = 6) (e5_1 : ∃ e ∈ f5, Region.binds .any e = true ∧ e.on = 1) (e7_3 : ∃ e ∈ f7, Region.binds .any e = true ∧ e.on = 3)
    (hf0 : ∀ g w, (Instr.fieldAt T (.pointer (some ⟨g, 0, none⟩)) fi0).run P w = .ok (.pointer (some ⟨g, o0, none⟩)) w) (hf1 : ∀ g w, (Instr.fieldAt T (.pointer (some ⟨g, 0, none⟩)) fi1).run P w = .ok (.pointer (some ⟨g, o1, none⟩)) w)
    (hl0 : ∀ w', Cells w' g1 L1 → (Instr.loadAt T0 (.pointer (some ⟨g1, o0, none⟩))).run P w' = .ok v0 w') (hl1 : ∀ w', Cells w' g1 L1 → (Instr.loadAt T1 (.pointer (some ⟨g1, o1, none⟩))).run P w' = .ok v1 w')
    (hs0 : ∀ w' L, Cells w' g2 L → o0 < L.length → (Instr.storeAt T0 (.pointer (some ⟨g2, o0, none⟩)) v0).run P w' = .ok () (w'.setCell ⟨g2, o0, none⟩ v0)) (hs1 : ∀ w' L, Cells w' g2 L → o1 < L.length → (Instr.storeAt T1 (.pointer (some ⟨g2, o1, none⟩)) v1).run P w' = .ok () (w'.setCell ⟨g2, o1, none⟩ v1))
    (n0_1 : o0 ≠ o1) (hb0 : o0 < L2.length) (hb1 : o1 < L2.length)
    (hfin : ∀ a' w', a'.tmps.size = n → a'.defers = [] → a'.eval (.tmp s1) = .pointer (some ⟨g1, 0, none⟩) → a'.eval (.tmp s2) = .pointer (some ⟨g2, 0, none⟩) → a'.eval (.tmp s4) = c → Two W B g1 g2 L1 (setIf (true) o0 v0 (setIf (true) o1 v1 L2)) w' → Q .normal a' w') :
    (Code.region id #[⟨some a0, .fieldAddr T (.tmp s1) fi0, y0, p0, f0, none⟩, ⟨some l0, .load T0 (.tmp a0), y1, p1, f1, none⟩, ⟨some a1, .fieldAddr T (.tmp s1) fi1, y2, p2, f2, none⟩, ⟨some l1, .load T1 (.tmp a1), y3, p3, f3, none⟩, ⟨some b0, .fieldAddr T (.tmp s2) fi0, y4, p4, f4, none⟩, ⟨none, .store T0 (.tmp b0) (.tmp l0), y5, p5, f5, none⟩, ⟨some b1, .fieldAddr T (.tmp s2) fi1, y6, p6, f6, none⟩, ⟨none, .store T1 (.tmp b1) (.tmp l1), y7, p7, f7, none⟩] true).wp P Q a w := by
  refine wp_region_inv hm (fun listed a w => Inv n [(s1, .pointer (some ⟨g1, 0, none⟩)), (s2, .pointer (some ⟨g2, 0, none⟩)), (s4, c)] [(0, a0, .pointer (some ⟨g1, o0, none⟩)), (1, l0, v0), (2, a1, .pointer (some ⟨g1, o1, none⟩)), (3, l1, v1), (4, b0, .pointer (some ⟨g2, o0, none⟩)), (6, b1, .pointer (some ⟨g2, o1, none⟩))] (Two W B g1 g2 L1 (setIf (listed.getD 5 false) o0 v0 (setIf (listed.getD 7 false) o1 v1 L2))) listed a w) hback ?_ ?_ ?_
  · intro listed aa ww i o hs ho hd hI
    have u1 : aa.eval (.tmp s1) = .pointer (some ⟨g1, 0, none⟩) := hI.fx (s1, _) (by simp)
    have u2 : aa.eval (.tmp s2) = .pointer (some ⟨g2, 0, none⟩) := hI.fx (s2, _) (by simp)
    have hls : listed.size = 8 := hs
    match i, ho with
    | 0, ho =>
      obtain rfl := pick_op ho rfl
      refine wpOp_go ho (wanted_none rfl _) a0 rfl (.pointer (some ⟨g1, o0, none⟩)) ww ?_ (hI.put' hfit 0 a0 _ (ma 0 rfl) (by rw [ran_ne listed (i := 0) (k := 5) (by decide), ran_ne listed (i := 0) (k := 7) (by decide)]; exact hI.wp))
      unfold execOp
      simp only [u1, Sem.run_bind, hf0, Result.andThen_ok, Sem.run_pure]
    | 1, ho =>
      obtain rfl := pick_op ho rfl
      have u_0 : aa.eval (.tmp a0) = .pointer (some ⟨g1, o0, none⟩) := by
        obtain ⟨ed, hed, hbd, hon⟩ := e1_0
        have hl := hd ed hed hbd
        rw [hon] at hl
        exact hI.vs (0, a0, .pointer (some ⟨g1, o0, none⟩)) (ma 0 rfl) hl
      refine wpOp_go ho (wanted_none rfl _) l0 rfl (v0) ww ?_ (hI.put' hfit 1 l0 _ (ma 1 rfl) (by rw [ran_ne listed (i := 1) (k := 5) (by decide), ran_ne listed (i := 1) (k := 7) (by decide)]; exact hI.wp))
      unfold execOp
      simp only [u_0, Sem.run_bind, hl0 ww hI.wp.c1, Result.andThen_ok, Sem.run_pure]
    | 2, ho =>
      obtain rfl := pick_op ho rfl
      refine wpOp_go ho (wanted_none rfl _) a1 rfl (.pointer (some ⟨g1, o1, none⟩)) ww ?_ (hI.put' hfit 2 a1 _ (ma 2 rfl) (by rw [ran_ne listed (i := 2) (k := 5) (by decide), ran_ne listed (i := 2) (k := 7) (by decide)]; exact hI.wp))
      unfold execOp
      simp only [u1, Sem.run_bind, hf1, Result.andThen_ok, Sem.run_pure]
    | 3, ho =>
      obtain rfl := pick_op ho rfl
      have u_2 : aa.eval (.tmp a1) = .pointer (some ⟨g1, o1, none⟩) := by
        obtain ⟨ed, hed, hbd, hon⟩ := e3_2
        have hl := hd ed hed hbd
        rw [hon] at hl
        exact hI.vs (2, a1, .pointer (some ⟨g1, o1, none⟩)) (ma 2 rfl) hl
      refine wpOp_go ho (wanted_none rfl _) l1 rfl (v1) ww ?_ (hI.put' hfit 3 l1 _ (ma 3 rfl) (by rw [ran_ne listed (i := 3) (k := 5) (by decide), ran_ne listed (i := 3) (k := 7) (by decide)]; exact hI.wp))
      unfold execOp
      simp only [u_2, Sem.run_bind, hl1 ww hI.wp.c1, Result.andThen_ok, Sem.run_pure]
    | 4, ho =>
      obtain rfl := pick_op ho rfl
      refine wpOp_go ho (wanted_none rfl _) b0 rfl (.pointer (some ⟨g2, o0, none⟩)) ww ?_ (hI.put' hfit 4 b0 _ (ma 4 rfl) (by rw [ran_ne listed (i := 4) (k := 5) (by decide), ran_ne listed (i := 4) (k := 7) (by decide)]; exact hI.wp))
      unfold execOp
      simp only [u2, Sem.run_bind, hf0, Result.andThen_ok, Sem.run_pure]
    | 5, ho =>
      obtain rfl := pick_op ho rfl
      have u_4 : aa.eval (.tmp b0) = .pointer (some ⟨g2, o0, none⟩) := by
        obtain ⟨ed, hed, hbd, hon⟩ := e5_4
        have hl := hd ed hed hbd
        rw [hon] at hl
        exact hI.vs (4, b0, .pointer (some ⟨g2, o0, none⟩)) (ma 4 rfl) hl
      have u_1 : aa.eval (.tmp l0) = v0 := by
        obtain ⟨ed, hed, hbd, hon⟩ := e5_1
        have hl := hd ed hed hbd
        rw [hon] at hl
        exact hI.vs (1, l0, v0) (ma 1 rfl) hl
      have hlen : o0 < ((setIf (listed.getD 5 false) o0 v0 (setIf (listed.getD 7 false) o1 v1 L2))).length := by simp only [setIf_length]; exact hb0
      have hw := hI.wp.set o0 v0 (by simp only [setIf_length]; exact hb0)
      rw [setIf_same] at hw
      refine wpOp_do ho (wanted_none rfl _) rfl (ww.setCell ⟨g2, o0, none⟩ v0) ?_ (hI.mute' 5 rfl ?_)
      · unfold execOp
        simp only [u_4, u_1, Sem.run_bind, hs0 ww _ hI.wp.c2 hlen, Result.andThen_ok, Sem.run_pure]
      · rw [ran_same listed (i := 5) (by omega), ran_ne listed (i := 5) (k := 7) (by decide)]
        exact hw
    | 6, ho =>
      obtain rfl := pick_op ho rfl
      refine wpOp_go ho (wanted_none rfl _) b1 rfl (.pointer (some ⟨g2, o1, none⟩)) ww ?_ (hI.put' hfit 6 b1 _ (ma 5 rfl) (by rw [ran_ne listed (i := 6) (k := 5) (by decide), ran_ne listed (i := 6) (k := 7) (by decide)]; exact hI.wp))
      unfold execOp
      simp only [u2, Sem.run_bind, hf1, Result.andThen_ok, Sem.run_pure]
    | 7, ho =>
      obtain rfl := pick_op ho rfl
      have u_6 : aa.eval (.tmp b1) = .pointer (some ⟨g2, o1, none⟩) := by
        obtain ⟨ed, hed, hbd, hon⟩ := e7_6
        have hl := hd ed hed hbd
        rw [hon] at hl
        exact hI.vs (6, b1, .pointer (some ⟨g2, o1, none⟩)) (ma 5 rfl) hl
      have u_3 : aa.eval (.tmp l1) = v1 := by
        obtain ⟨ed, hed, hbd, hon⟩ := e7_3
        have hl := hd ed hed hbd
        rw [hon] at hl
        exact hI.vs (3, l1, v1) (ma 3 rfl) hl
      have hlen : o1 < ((setIf (listed.getD 5 false) o0 v0 (setIf (listed.getD 7 false) o1 v1 L2))).length := by simp only [setIf_length]; exact hb1
      have hw := hI.wp.set o1 v1 (by simp only [setIf_length]; exact hb1)
      rw [setIf_ne (Ne.symm n0_1), setIf_same] at hw
      refine wpOp_do ho (wanted_none rfl _) rfl (ww.setCell ⟨g2, o1, none⟩ v1) ?_ (hI.mute' 7 rfl ?_)
      · unfold execOp
        simp only [u_6, u_3, Sem.run_bind, hs1 ww _ hI.wp.c2 hlen, Result.andThen_ok, Sem.run_pure]
      · rw [ran_same listed (i := 7) (by omega), ran_ne listed (i := 7) (k := 5) (by decide)]
        exact hw
    | (k + 8), ho => simp at ho
  · intro listed aa ww hall hI
    have hw := hI.wp
    rw [hall 5 (by simp), hall 7 (by simp)] at hw
    exact hfin aa ww hI.sz hI.df (hI.fx (s1, _) (by simp)) (hI.fx (s2, _) (by simp)) (hI.fx (s4, _) (by simp)) hw
  · refine ⟨hsz, hdf, ?_, ?_, ?_⟩
    · intro f hf
      simp only [List.mem_cons, List.not_mem_nil, or_false] at hf
      rcases hf with rfl | rfl | rfl
      · exact h1
      · exact h2
      · exact h4
    · intro t ht hl
      rw [none_ran] at hl
      cases hl
    · rw [none_ran _ 5, none_ran _ 7]
      exact hT.drew
end
section
variable {P : Program} {Q : Exit → Act → World → Prop} {a : Act} {w W : World} {id n s1 s2 s4 B g1 g2 T a0 l0 b0 T0 fi0 o0 a1 l1 b1 T1 fi1 o1 a2 l2 b2 T2 fi2 o2 a3 l3 b3 T3 fi3 o3 a4 l4 b4 T4 fi4 o4 a5 l5 b5 T5 fi5 o5 : Nat} {L1 L2 : List Value} {c : Value} {v0 v1 v2 v3 v4 v5 : Value}
  {y0 y1 y2 y3 y4 y5 y6 y7 y8 y9 y10 y11 y12 y13 y14 y15 y16 y17 y18 y19 y20 y21 y22 y23 : TypeId} {p0 p1 p2 p3 p4 p5 p6 p7 p8 p9 p10 p11 p12 p13 p14 p15 p16 p17 p18 p19 p20 p21 p22 p23 : String} {f0 f1 f2 f3 f4 f5 f6 f7 f8 f9 f10 f11 f12 f13 f14 f15 f16 f17 f18 f19 f20 f21 f22 f23 : Array Edge}
set_option maxHeartbeats 3200000 in
theorem region_copy6 (hm : P.follows .mixedOrders = true) (hsz : a.tmps.size = n) (hdf : a.defers = []) (h1 : a.eval (.tmp s1) = .pointer (some ⟨g1, 0, none⟩)) (h2 : a.eval (.tmp s2) = .pointer (some ⟨g2, 0, none⟩)) (h4 : a.eval (.tmp s4) = c)
    (hT : Two W B g1 g2 L1 L2 w) (hfit : fits n [(s1, .pointer (some ⟨g1, 0, none⟩)), (s2, .pointer (some ⟨g2, 0, none⟩)), (s4, c)] [(0, a0, .pointer (some ⟨g1, o0, none⟩)), (1, l0, v0), (2, a1, .pointer (some ⟨g1, o1, none⟩)), (3, l1, v1), (4, a2, .pointer (some ⟨g1, o2, none⟩)), (5, l2, v2), (6, a3, .pointer (some ⟨g1, o3, none⟩)), (7, l3, v3), (8, a4, .pointer (some ⟨g1, o4, none⟩)), (9, l4, v4), (10, a5, .pointer (some ⟨g1, o5, none⟩)), (11, l5, v5), (12, b0, .pointer (some ⟨g2, o0, none⟩)), (14, b1, .pointer (some ⟨g2, o1, none⟩)), (16, b2, .pointer (some ⟨g2, o2, none⟩)), (18, b3, .pointer (some ⟨g2, o3, none⟩)), (20, b4, .pointer (some ⟨g2, o4, none⟩)), (22, b5, .pointer (some ⟨g2, o5, none⟩))] = true)
    (hback : ∀ (i : Nat) (o : Oper), (#[⟨some a0, .fieldAddr T (.tmp s1) fi0, y0, p0, f0, none⟩, ⟨some l0, .load T0 (.tmp a0), y1, p1, f1, none⟩, ⟨some a1, .fieldAddr T (.tmp s1) fi1, y2, p2, f2, none⟩, ⟨some l1, .load T1 (.tmp a1), y3, p3, f3, none⟩, ⟨some a2, .fieldAddr T (.tmp s1) fi2, y4, p4, f4, none⟩, ⟨some l2, .load T2 (.tmp a2), y5, p5, f5, none⟩, ⟨some a3, .fieldAddr T (.tmp s1) fi3, y6, p6, f6, none⟩, ⟨some l3, .load T3 (.tmp a3), y7, p7, f7, none⟩, ⟨some a4, .fieldAddr T (.tmp s1) fi4, y8, p8, f8, none⟩, ⟨some l4, .load T4 (.tmp a4), y9, p9, f9, none⟩, ⟨some a5, .fieldAddr T (.tmp s1) fi5, y10, p10, f10, none⟩, ⟨some l5, .load T5 (.tmp a5), y11, p11, f11, none⟩, ⟨some b0, .fieldAddr T (.tmp s2) fi0, y12, p12, f12, none⟩, ⟨none, .store T0 (.tmp b0) (.tmp l0), y13, p13, f13, none⟩, ⟨some b1, .fieldAddr T (.tmp s2) fi1, y14, p14, f14, none⟩, ⟨none, .store T1 (.tmp b1) (.tmp l1), y15, p15, f15, none⟩, ⟨some b2, .fieldAddr T (.tmp s2) fi2, y16, p16, f16, none⟩, ⟨none, .store T2 (.tmp b2) (.tmp l2), y17, p17, f17, none⟩, ⟨some b3, .fieldAddr T (.tmp s2) fi3, y18, p18, f18, none⟩, ⟨none, .store T3 (.tmp b3) (.tmp l3), y19, p19, f19, none⟩, ⟨some b4, .fieldAddr T (.tmp s2) fi4, y20, p20, f20, none⟩, ⟨none, .store T4 (.tmp b4) (.tmp l4), y21, p21, f21, none⟩, ⟨some b5, .fieldAddr T (.tmp s2) fi5, y22, p22, f22, none⟩, ⟨none, .store T5 (.tmp b5) (.tmp l5), y23, p23, f23, none⟩] : Array Oper)[i]? = some o → ∀ e ∈ o.after, Region.binds .any e = true → e.on < i)
    (e1_0 : ∃ e ∈ f1, Region.binds .any e = true ∧ e.on = 0) (e3_2 : ∃ e ∈ f3, Region.binds .any e = true ∧ e.on = 2) (e5_4 : ∃ e ∈ f5, Region.binds .any e = true ∧ e.on = 4) (e7_6 : ∃ e ∈ f7, Region.binds .any e = true ∧ e.on = 6) (e9_8 : ∃ e ∈ f9, Region.binds .any e = true ∧ e.on = 8) (e11_10 : ∃ e ∈ f11, Region.binds .any e = true ∧ e.on = 10) (e13_12 : ∃ e ∈ f13, Region.binds .any e = true ∧ e.on = 12) (e15_14 : ∃ e ∈ f15, Region.binds .any e = true ∧ e.on = 14) (e17_16 : ∃ e ∈ f17, Region.binds .any e = true ∧ e.on = 16) (e19_18 : ∃ e ∈ f19, Region.binds .any e = true ∧ e.on = 18) (e21_20 : ∃ e ∈ f21, Region.binds .any e = true ∧ e.on = 20) (e23_22 : ∃ e ∈ f23, Region.binds .any e = true ∧ e.on = 22) (e13_1 : ∃ e ∈ f13, Region.binds .any e = true ∧ e.on = 1) (e15_3 : ∃ e ∈ f15, Region.binds .any e = true ∧ e.on = 3) (e17_5 : ∃ e ∈ f17, Region.binds .any e = true ∧ e.on = 5) (e19_7 : ∃ e ∈ f19, Region.binds .any e = true ∧ e.on = 7) (e21_9 : ∃ e ∈ f21, Region.binds .any e = true ∧ e.on = 9) (e23_11 : ∃ e ∈ f23, Region.binds .any e = true ∧ e.on = 11)
    (hf0 : ∀ g w, (Instr.fieldAt T (.pointer (some ⟨g, 0, none⟩)) fi0).run P w = .ok (.pointer (some ⟨g, o0, none⟩)) w) (hf1 : ∀ g w, (Instr.fieldAt T (.pointer (some ⟨g, 0, none⟩)) fi1).run P w = .ok (.pointer (some ⟨g, o1, none⟩)) w) (hf2 : ∀ g w, (Instr.fieldAt T (.pointer (some ⟨g, 0, none⟩)) fi2).run P w = .ok (.pointer (some ⟨g, o2, none⟩)) w) (hf3 : ∀ g w, (Instr.fieldAt T (.pointer (some ⟨g, 0, none⟩)) fi3).run P w = .ok (.pointer (some ⟨g, o3, none⟩)) w) (hf4 : ∀ g w, (Instr.fieldAt T (.pointer (some ⟨g, 0, none⟩)) fi4).run P w = .ok (.pointer (some ⟨g, o4, none⟩)) w) (hf5 : ∀ g w, (Instr.fieldAt T (.pointer (some ⟨g, 0, none⟩)) fi5).run P w = .ok (.pointer (some ⟨g, o5, none⟩)) w)
    (hl0 : ∀ w', Cells w' g1 L1 → (Instr.loadAt T0 (.pointer (some ⟨g1, o0, none⟩))).run P w' = .ok v0 w') (hl1 : ∀ w', Cells w' g1 L1 → (Instr.loadAt T1 (.pointer (some ⟨g1, o1, none⟩))).run P w' = .ok v1 w') (hl2 : ∀ w', Cells w' g1 L1 → (Instr.loadAt T2 (.pointer (some ⟨g1, o2, none⟩))).run P w' = .ok v2 w') (hl3 : ∀ w', Cells w' g1 L1 → (Instr.loadAt T3 (.pointer (some ⟨g1, o3, none⟩))).run P w' = .ok v3 w') (hl4 : ∀ w', Cells w' g1 L1 → (Instr.loadAt T4 (.pointer (some ⟨g1, o4, none⟩))).run P w' = .ok v4 w') (hl5 : ∀ w', Cells w' g1 L1 → (Instr.loadAt T5 (.pointer (some ⟨g1, o5, none⟩))).run P w' = .ok v5 w')
    (hs0 : ∀ w' L, Cells w' g2 L → o0 < L.length → (Instr.storeAt T0 (.pointer (some ⟨g2, o0, none⟩)) v0).run P w' = .ok () (w'.setCell ⟨g2, o0, none⟩ v0)) (hs1 : ∀ w' L, Cells w' g2 L → o1 < L.length → (Instr.storeAt T1 (.pointer (some ⟨g2, o1, none⟩)) v1).run P w' = .ok () (w'.setCell ⟨g2, o1, none⟩ v1)) (hs2 : ∀ w' L, Cells w' g2 L → o2 < L.length → (Instr.storeAt T2 (.pointer (some ⟨g2, o2, none⟩)) v2).run P w' = .ok () (w'.setCell ⟨g2, o2, none⟩ v2)) (hs3 : ∀ w' L, Cells w' g2 L → o3 < L.length → (Instr.storeAt T3 (.pointer (some ⟨g2, o3, none⟩)) v3).run P w' = .ok () (w'.setCell ⟨g2, o3, none⟩ v3)) (hs4 : ∀ w' L, Cells w' g2 L → o4 < L.length → (Instr.storeAt T4 (.pointer (some ⟨g2, o4, none⟩)) v4).run P w' = .ok () (w'.setCell ⟨g2, o4, none⟩ v4)) (hs5 : ∀ w' L, Cells w' g2 L → o5 < L.length → (Instr.storeAt T5 (.pointer (some ⟨g2, o5, none⟩)) v5).run P w' = .ok () (w'.setCell ⟨g2, o5, none⟩ v5))
    (n0_1 : o0 ≠ o1) (n0_2 : o0 ≠ o2) (n0_3 : o0 ≠ o3) (n0_4 : o0 ≠ o4) (n0_5 : o0 ≠ o5) (n1_2 : o1 ≠ o2) (n1_3 : o1 ≠ o3) (n1_4 : o1 ≠ o4) (n1_5 : o1 ≠ o5) (n2_3 : o2 ≠ o3) (n2_4 : o2 ≠ o4) (n2_5 : o2 ≠ o5) (n3_4 : o3 ≠ o4) (n3_5 : o3 ≠ o5) (n4_5 : o4 ≠ o5) (hb0 : o0 < L2.length) (hb1 : o1 < L2.length) (hb2 : o2 < L2.length) (hb3 : o3 < L2.length) (hb4 : o4 < L2.length) (hb5 : o5 < L2.length)
    (hfin : ∀ a' w', a'.tmps.size = n → a'.defers = [] → a'.eval (.tmp s1) = .pointer (some ⟨g1, 0, none⟩) → a'.eval (.tmp s2) = .pointer (some ⟨g2, 0, none⟩) → a'.eval (.tmp s4) = c → Two W B g1 g2 L1 (setIf (true) o0 v0 (setIf (true) o1 v1 (setIf (true) o2 v2 (setIf (true) o3 v3 (setIf (true) o4 v4 (setIf (true) o5 v5 L2)))))) w' → Q .normal a' w') :
    (Code.region id #[⟨some a0, .fieldAddr T (.tmp s1) fi0, y0, p0, f0, none⟩, ⟨some l0, .load T0 (.tmp a0), y1, p1, f1, none⟩, ⟨some a1, .fieldAddr T (.tmp s1) fi1, y2, p2, f2, none⟩, ⟨some l1, .load T1 (.tmp a1), y3, p3, f3, none⟩, ⟨some a2, .fieldAddr T (.tmp s1) fi2, y4, p4, f4, none⟩, ⟨some l2, .load T2 (.tmp a2), y5, p5, f5, none⟩, ⟨some a3, .fieldAddr T (.tmp s1) fi3, y6, p6, f6, none⟩, ⟨some l3, .load T3 (.tmp a3), y7, p7, f7, none⟩, ⟨some a4, .fieldAddr T (.tmp s1) fi4, y8, p8, f8, none⟩, ⟨some l4, .load T4 (.tmp a4), y9, p9, f9, none⟩, ⟨some a5, .fieldAddr T (.tmp s1) fi5, y10, p10, f10, none⟩, ⟨some l5, .load T5 (.tmp a5), y11, p11, f11, none⟩, ⟨some b0, .fieldAddr T (.tmp s2) fi0, y12, p12, f12, none⟩, ⟨none, .store T0 (.tmp b0) (.tmp l0), y13, p13, f13, none⟩, ⟨some b1, .fieldAddr T (.tmp s2) fi1, y14, p14, f14, none⟩, ⟨none, .store T1 (.tmp b1) (.tmp l1), y15, p15, f15, none⟩, ⟨some b2, .fieldAddr T (.tmp s2) fi2, y16, p16, f16, none⟩, ⟨none, .store T2 (.tmp b2) (.tmp l2), y17, p17, f17, none⟩, ⟨some b3, .fieldAddr T (.tmp s2) fi3, y18, p18, f18, none⟩, ⟨none, .store T3 (.tmp b3) (.tmp l3), y19, p19, f19, none⟩, ⟨some b4, .fieldAddr T (.tmp s2) fi4, y20, p20, f20, none⟩, ⟨none, .store T4 (.tmp b4) (.tmp l4), y21, p21, f21, none⟩, ⟨some b5, .fieldAddr T (.tmp s2) fi5, y22, p22, f22, none⟩, ⟨none, .store T5 (.tmp b5) (.tmp l5), y23, p23, f23, none⟩] true).wp P Q a w := by
  refine wp_region_inv hm (fun listed a w => Inv n [(s1, .pointer (some ⟨g1, 0, none⟩)), (s2, .pointer (some ⟨g2, 0, none⟩)), (s4, c)] [(0, a0, .pointer (some ⟨g1, o0, none⟩)), (1, l0, v0), (2, a1, .pointer (some ⟨g1, o1, none⟩)), (3, l1, v1), (4, a2, .pointer (some ⟨g1, o2, none⟩)), (5, l2, v2), (6, a3, .pointer (some ⟨g1, o3, none⟩)), (7, l3, v3), (8, a4, .pointer (some ⟨g1, o4, none⟩)), (9, l4, v4), (10, a5, .pointer (some ⟨g1, o5, none⟩)), (11, l5, v5), (12, b0, .pointer (some ⟨g2, o0, none⟩)), (14, b1, .pointer (some ⟨g2, o1, none⟩)), (16, b2, .pointer (some ⟨g2, o2, none⟩)), (18, b3, .pointer (some ⟨g2, o3, none⟩)), (20, b4, .pointer (some ⟨g2, o4, none⟩)), (22, b5, .pointer (some ⟨g2, o5, none⟩))] (Two W B g1 g2 L1 (setIf (listed.getD 13 false) o0 v0 (setIf (listed.getD 15 false) o1 v1 (setIf (listed.getD 17 false) o2 v2 (setIf (listed.getD 19 false) o3 v3 (setIf (listed.getD 21 false) o4 v4 (setIf (listed.getD 23 false) o5 v5 L2))))))) listed a w) hback ?_ ?_ ?_
  · intro listed aa ww i o hs ho hd hI
    have u1 : aa.eval (.tmp s1) = .pointer (some ⟨g1, 0, none⟩) := hI.fx (s1, _) (by simp)
    have u2 : aa.eval (.tmp s2) = .pointer (some ⟨g2, 0, none⟩) := hI.fx (s2, _) (by simp)
    have hls : listed.size = 24 := hs
    match i, ho with
    | 0, ho =>
      obtain rfl := pick_op ho rfl
      refine wpOp_go ho (wanted_none rfl _) a0 rfl (.pointer (some ⟨g1, o0, none⟩)) ww ?_ (hI.put' hfit 0 a0 _ (ma 0 rfl) (by rw [ran_ne listed (i := 0) (k := 13) (by decide), ran_ne listed (i := 0) (k := 15) (by decide), ran_ne listed (i := 0) (k := 17) (by decide), ran_ne listed (i := 0) (k := 19) (by decide), ran_ne listed (i := 0) (k := 21) (by decide), ran_ne listed (i := 0) (k := 23) (by decide)]; exact hI.wp))
      unfold execOp
      simp only [u1, Sem.run_bind, hf0, Result.andThen_ok, Sem.run_pure]
    | 1, ho =>
      obtain rfl := pick_op ho rfl
      have u_0 : aa.eval (.tmp a0) = .pointer (some ⟨g1, o0, none⟩) := by
        obtain ⟨ed, hed, hbd, hon⟩ := e1_0
        have hl := hd ed hed hbd
        rw [hon] at hl
        exact hI.vs (0, a0, .pointer (some ⟨g1, o0, none⟩)) (ma 0 rfl) hl
      refine wpOp_go ho (wanted_none rfl _) l0 rfl (v0) ww ?_ (hI.put' hfit 1 l0 _ (ma 1 rfl) (by rw [ran_ne listed (i := 1) (k := 13) (by decide), ran_ne listed (i := 1) (k := 15) (by decide), ran_ne listed (i := 1) (k := 17) (by decide), ran_ne listed (i := 1) (k := 19) (by decide), ran_ne listed (i := 1) (k := 21) (by decide), ran_ne listed (i := 1) (k := 23) (by decide)]; exact hI.wp))
      unfold execOp
      simp only [u_0, Sem.run_bind, hl0 ww hI.wp.c1, Result.andThen_ok, Sem.run_pure]
    | 2, ho =>
      obtain rfl := pick_op ho rfl
      refine wpOp_go ho (wanted_none rfl _) a1 rfl (.pointer (some ⟨g1, o1, none⟩)) ww ?_ (hI.put' hfit 2 a1 _ (ma 2 rfl) (by rw [ran_ne listed (i := 2) (k := 13) (by decide), ran_ne listed (i := 2) (k := 15) (by decide), ran_ne listed (i := 2) (k := 17) (by decide), ran_ne listed (i := 2) (k := 19) (by decide), ran_ne listed (i := 2) (k := 21) (by decide), ran_ne listed (i := 2) (k := 23) (by decide)]; exact hI.wp))
      unfold execOp
      simp only [u1, Sem.run_bind, hf1, Result.andThen_ok, Sem.run_pure]
    | 3, ho =>
      obtain rfl := pick_op ho rfl
      have u_2 : aa.eval (.tmp a1) = .pointer (some ⟨g1, o1, none⟩) := by
        obtain ⟨ed, hed, hbd, hon⟩ := e3_2
        have hl := hd ed hed hbd
        rw [hon] at hl
        exact hI.vs (2, a1, .pointer (some ⟨g1, o1, none⟩)) (ma 2 rfl) hl
      refine wpOp_go ho (wanted_none rfl _) l1 rfl (v1) ww ?_ (hI.put' hfit 3 l1 _ (ma 3 rfl) (by rw [ran_ne listed (i := 3) (k := 13) (by decide), ran_ne listed (i := 3) (k := 15) (by decide), ran_ne listed (i := 3) (k := 17) (by decide), ran_ne listed (i := 3) (k := 19) (by decide), ran_ne listed (i := 3) (k := 21) (by decide), ran_ne listed (i := 3) (k := 23) (by decide)]; exact hI.wp))
      unfold execOp
      simp only [u_2, Sem.run_bind, hl1 ww hI.wp.c1, Result.andThen_ok, Sem.run_pure]
    | 4, ho =>
      obtain rfl := pick_op ho rfl
      refine wpOp_go ho (wanted_none rfl _) a2 rfl (.pointer (some ⟨g1, o2, none⟩)) ww ?_ (hI.put' hfit 4 a2 _ (ma 4 rfl) (by rw [ran_ne listed (i := 4) (k := 13) (by decide), ran_ne listed (i := 4) (k := 15) (by decide), ran_ne listed (i := 4) (k := 17) (by decide), ran_ne listed (i := 4) (k := 19) (by decide), ran_ne listed (i := 4) (k := 21) (by decide), ran_ne listed (i := 4) (k := 23) (by decide)]; exact hI.wp))
      unfold execOp
      simp only [u1, Sem.run_bind, hf2, Result.andThen_ok, Sem.run_pure]
    | 5, ho =>
      obtain rfl := pick_op ho rfl
      have u_4 : aa.eval (.tmp a2) = .pointer (some ⟨g1, o2, none⟩) := by
        obtain ⟨ed, hed, hbd, hon⟩ := e5_4
        have hl := hd ed hed hbd
        rw [hon] at hl
        exact hI.vs (4, a2, .pointer (some ⟨g1, o2, none⟩)) (ma 4 rfl) hl
      refine wpOp_go ho (wanted_none rfl _) l2 rfl (v2) ww ?_ (hI.put' hfit 5 l2 _ (ma 5 rfl) (by rw [ran_ne listed (i := 5) (k := 13) (by decide), ran_ne listed (i := 5) (k := 15) (by decide), ran_ne listed (i := 5) (k := 17) (by decide), ran_ne listed (i := 5) (k := 19) (by decide), ran_ne listed (i := 5) (k := 21) (by decide), ran_ne listed (i := 5) (k := 23) (by decide)]; exact hI.wp))
      unfold execOp
      simp only [u_4, Sem.run_bind, hl2 ww hI.wp.c1, Result.andThen_ok, Sem.run_pure]
    | 6, ho =>
      obtain rfl := pick_op ho rfl
      refine wpOp_go ho (wanted_none rfl _) a3 rfl (.pointer (some ⟨g1, o3, none⟩)) ww ?_ (hI.put' hfit 6 a3 _ (ma 6 rfl) (by rw [ran_ne listed (i := 6) (k := 13) (by decide), ran_ne listed (i := 6) (k := 15) (by decide), ran_ne listed (i := 6) (k := 17) (by decide), ran_ne listed (i := 6) (k := 19) (by decide), ran_ne listed (i := 6) (k := 21) (by decide), ran_ne listed (i := 6) (k := 23) (by decide)]; exact hI.wp))
      unfold execOp
      simp only [u1, Sem.run_bind, hf3, Result.andThen_ok, Sem.run_pure]
    | 7, ho =>
      obtain rfl := pick_op ho rfl
      have u_6 : aa.eval (.tmp a3) = .pointer (some ⟨g1, o3, none⟩) := by
        obtain ⟨ed, hed, hbd, hon⟩ := e7_6
        have hl := hd ed hed hbd
        rw [hon] at hl
        exact hI.vs (6, a3, .pointer (some ⟨g1, o3, none⟩)) (ma 6 rfl) hl
      refine wpOp_go ho (wanted_none rfl _) l3 rfl (v3) ww ?_ (hI.put' hfit 7 l3 _ (ma 7 rfl) (by rw [ran_ne listed (i := 7) (k := 13) (by decide), ran_ne listed (i := 7) (k := 15) (by decide), ran_ne listed (i := 7) (k := 17) (by decide), ran_ne listed (i := 7) (k := 19) (by decide), ran_ne listed (i := 7) (k := 21) (by decide), ran_ne listed (i := 7) (k := 23) (by decide)]; exact hI.wp))
      unfold execOp
      simp only [u_6, Sem.run_bind, hl3 ww hI.wp.c1, Result.andThen_ok, Sem.run_pure]
    | 8, ho =>
      obtain rfl := pick_op ho rfl
      refine wpOp_go ho (wanted_none rfl _) a4 rfl (.pointer (some ⟨g1, o4, none⟩)) ww ?_ (hI.put' hfit 8 a4 _ (ma 8 rfl) (by rw [ran_ne listed (i := 8) (k := 13) (by decide), ran_ne listed (i := 8) (k := 15) (by decide), ran_ne listed (i := 8) (k := 17) (by decide), ran_ne listed (i := 8) (k := 19) (by decide), ran_ne listed (i := 8) (k := 21) (by decide), ran_ne listed (i := 8) (k := 23) (by decide)]; exact hI.wp))
      unfold execOp
      simp only [u1, Sem.run_bind, hf4, Result.andThen_ok, Sem.run_pure]
    | 9, ho =>
      obtain rfl := pick_op ho rfl
      have u_8 : aa.eval (.tmp a4) = .pointer (some ⟨g1, o4, none⟩) := by
        obtain ⟨ed, hed, hbd, hon⟩ := e9_8
        have hl := hd ed hed hbd
        rw [hon] at hl
        exact hI.vs (8, a4, .pointer (some ⟨g1, o4, none⟩)) (ma 8 rfl) hl
      refine wpOp_go ho (wanted_none rfl _) l4 rfl (v4) ww ?_ (hI.put' hfit 9 l4 _ (ma 9 rfl) (by rw [ran_ne listed (i := 9) (k := 13) (by decide), ran_ne listed (i := 9) (k := 15) (by decide), ran_ne listed (i := 9) (k := 17) (by decide), ran_ne listed (i := 9) (k := 19) (by decide), ran_ne listed (i := 9) (k := 21) (by decide), ran_ne listed (i := 9) (k := 23) (by decide)]; exact hI.wp))
      unfold execOp
      simp only [u_8, Sem.run_bind, hl4 ww hI.wp.c1, Result.andThen_ok, Sem.run_pure]
    | 10, ho =>
      obtain rfl := pick_op ho rfl
      refine wpOp_go ho (wanted_none rfl _) a5 rfl (.pointer (some ⟨g1, o5, none⟩)) ww ?_ (hI.put' hfit 10 a5 _ (ma 10 rfl) (by rw [ran_ne listed (i := 10) (k := 13) (by decide), ran_ne listed (i := 10) (k := 15) (by decide), ran_ne listed (i := 10) (k := 17) (by decide), ran_ne listed (i := 10) (k := 19) (by decide), ran_ne listed (i := 10) (k := 21) (by decide), ran_ne listed (i := 10) (k := 23) (by decide)]; exact hI.wp))
      unfold execOp
      simp only [u1, Sem.run_bind, hf5, Result.andThen_ok, Sem.run_pure]
    | 11, ho =>
      obtain rfl := pick_op ho rfl
      have u_10 : aa.eval (.tmp a5) = .pointer (some ⟨g1, o5, none⟩) := by
        obtain ⟨ed, hed, hbd, hon⟩ := e11_10
        have hl := hd ed hed hbd
        rw [hon] at hl
        exact hI.vs (10, a5, .pointer (some ⟨g1, o5, none⟩)) (ma 10 rfl) hl
      refine wpOp_go ho (wanted_none rfl _) l5 rfl (v5) ww ?_ (hI.put' hfit 11 l5 _ (ma 11 rfl) (by rw [ran_ne listed (i := 11) (k := 13) (by decide), ran_ne listed (i := 11) (k := 15) (by decide), ran_ne listed (i := 11) (k := 17) (by decide), ran_ne listed (i := 11) (k := 19) (by decide), ran_ne listed (i := 11) (k := 21) (by decide), ran_ne listed (i := 11) (k := 23) (by decide)]; exact hI.wp))
      unfold execOp
      simp only [u_10, Sem.run_bind, hl5 ww hI.wp.c1, Result.andThen_ok, Sem.run_pure]
    | 12, ho =>
      obtain rfl := pick_op ho rfl
      refine wpOp_go ho (wanted_none rfl _) b0 rfl (.pointer (some ⟨g2, o0, none⟩)) ww ?_ (hI.put' hfit 12 b0 _ (ma 12 rfl) (by rw [ran_ne listed (i := 12) (k := 13) (by decide), ran_ne listed (i := 12) (k := 15) (by decide), ran_ne listed (i := 12) (k := 17) (by decide), ran_ne listed (i := 12) (k := 19) (by decide), ran_ne listed (i := 12) (k := 21) (by decide), ran_ne listed (i := 12) (k := 23) (by decide)]; exact hI.wp))
      unfold execOp
      simp only [u2, Sem.run_bind, hf0, Result.andThen_ok, Sem.run_pure]
    | 13, ho =>
      obtain rfl := pick_op ho rfl
      have u_12 : aa.eval (.tmp b0) = .pointer (some ⟨g2, o0, none⟩) := by
        obtain ⟨ed, hed, hbd, hon⟩ := e13_12
        have hl := hd ed hed hbd
        rw [hon] at hl
        exact hI.vs (12, b0, .pointer (some ⟨g2, o0, none⟩)) (ma 12 rfl) hl
      have u_1 : aa.eval (.tmp l0) = v0 := by
        obtain ⟨ed, hed, hbd, hon⟩ := e13_1
        have hl := hd ed hed hbd
        rw [hon] at hl
        exact hI.vs (1, l0, v0) (ma 1 rfl) hl
      have hlen : o0 < ((setIf (listed.getD 13 false) o0 v0 (setIf (listed.getD 15 false) o1 v1 (setIf (listed.getD 17 false) o2 v2 (setIf (listed.getD 19 false) o3 v3 (setIf (listed.getD 21 false) o4 v4 (setIf (listed.getD 23 false) o5 v5 L2))))))).length := by simp only [setIf_length]; exact hb0
      have hw := hI.wp.set o0 v0 (by simp only [setIf_length]; exact hb0)
      rw [setIf_same] at hw
      refine wpOp_do ho (wanted_none rfl _) rfl (ww.setCell ⟨g2, o0, none⟩ v0) ?_ (hI.mute' 13 rfl ?_)
      · unfold execOp
        simp only [u_12, u_1, Sem.run_bind, hs0 ww _ hI.wp.c2 hlen, Result.andThen_ok, Sem.run_pure]
      · rw [ran_same listed (i := 13) (by omega), ran_ne listed (i := 13) (k := 15) (by decide), ran_ne listed (i := 13) (k := 17) (by decide), ran_ne listed (i := 13) (k := 19) (by decide), ran_ne listed (i := 13) (k := 21) (by decide), ran_ne listed (i := 13) (k := 23) (by decide)]
        exact hw
    | 14, ho =>
      obtain rfl := pick_op ho rfl
      refine wpOp_go ho (wanted_none rfl _) b1 rfl (.pointer (some ⟨g2, o1, none⟩)) ww ?_ (hI.put' hfit 14 b1 _ (ma 13 rfl) (by rw [ran_ne listed (i := 14) (k := 13) (by decide), ran_ne listed (i := 14) (k := 15) (by decide), ran_ne listed (i := 14) (k := 17) (by decide), ran_ne listed (i := 14) (k := 19) (by decide), ran_ne listed (i := 14) (k := 21) (by decide), ran_ne listed (i := 14) (k := 23) (by decide)]; exact hI.wp))
      unfold execOp
      simp only [u2, Sem.run_bind, hf1, Result.andThen_ok, Sem.run_pure]
    | 15, ho =>
      obtain rfl := pick_op ho rfl
      have u_14 : aa.eval (.tmp b1) = .pointer (some ⟨g2, o1, none⟩) := by
        obtain ⟨ed, hed, hbd, hon⟩ := e15_14
        have hl := hd ed hed hbd
        rw [hon] at hl
        exact hI.vs (14, b1, .pointer (some ⟨g2, o1, none⟩)) (ma 13 rfl) hl
      have u_3 : aa.eval (.tmp l1) = v1 := by
        obtain ⟨ed, hed, hbd, hon⟩ := e15_3
        have hl := hd ed hed hbd
        rw [hon] at hl
        exact hI.vs (3, l1, v1) (ma 3 rfl) hl
      have hlen : o1 < ((setIf (listed.getD 13 false) o0 v0 (setIf (listed.getD 15 false) o1 v1 (setIf (listed.getD 17 false) o2 v2 (setIf (listed.getD 19 false) o3 v3 (setIf (listed.getD 21 false) o4 v4 (setIf (listed.getD 23 false) o5 v5 L2))))))).length := by simp only [setIf_length]; exact hb1
      have hw := hI.wp.set o1 v1 (by simp only [setIf_length]; exact hb1)
      rw [setIf_ne (Ne.symm n0_1), setIf_same] at hw
      refine wpOp_do ho (wanted_none rfl _) rfl (ww.setCell ⟨g2, o1, none⟩ v1) ?_ (hI.mute' 15 rfl ?_)
      · unfold execOp
        simp only [u_14, u_3, Sem.run_bind, hs1 ww _ hI.wp.c2 hlen, Result.andThen_ok, Sem.run_pure]
      · rw [ran_same listed (i := 15) (by omega), ran_ne listed (i := 15) (k := 13) (by decide), ran_ne listed (i := 15) (k := 17) (by decide), ran_ne listed (i := 15) (k := 19) (by decide), ran_ne listed (i := 15) (k := 21) (by decide), ran_ne listed (i := 15) (k := 23) (by decide)]
        exact hw
    | 16, ho =>
      obtain rfl := pick_op ho rfl
      refine wpOp_go ho (wanted_none rfl _) b2 rfl (.pointer (some ⟨g2, o2, none⟩)) ww ?_ (hI.put' hfit 16 b2 _ (ma 14 rfl) (by rw [ran_ne listed (i := 16) (k := 13) (by decide), ran_ne listed (i := 16) (k := 15) (by decide), ran_ne listed (i := 16) (k := 17) (by decide), ran_ne listed (i := 16) (k := 19) (by decide), ran_ne listed (i := 16) (k := 21) (by decide), ran_ne listed (i := 16) (k := 23) (by decide)]; exact hI.wp))
      unfold execOp
      simp only [u2, Sem.run_bind, hf2, Result.andThen_ok, Sem.run_pure]
    | 17, ho =>
      obtain rfl := pick_op ho rfl
      have u_16 : aa.eval (.tmp b2) = .pointer (some ⟨g2, o2, none⟩) := by
        obtain ⟨ed, hed, hbd, hon⟩ := e17_16
        have hl := hd ed hed hbd
        rw [hon] at hl
        exact hI.vs (16, b2, .pointer (some ⟨g2, o2, none⟩)) (ma 14 rfl) hl
      have u_5 : aa.eval (.tmp l2) = v2 := by
        obtain ⟨ed, hed, hbd, hon⟩ := e17_5
        have hl := hd ed hed hbd
        rw [hon] at hl
        exact hI.vs (5, l2, v2) (ma 5 rfl) hl
      have hlen : o2 < ((setIf (listed.getD 13 false) o0 v0 (setIf (listed.getD 15 false) o1 v1 (setIf (listed.getD 17 false) o2 v2 (setIf (listed.getD 19 false) o3 v3 (setIf (listed.getD 21 false) o4 v4 (setIf (listed.getD 23 false) o5 v5 L2))))))).length := by simp only [setIf_length]; exact hb2
      have hw := hI.wp.set o2 v2 (by simp only [setIf_length]; exact hb2)
      rw [setIf_ne (Ne.symm n0_2), setIf_ne (Ne.symm n1_2), setIf_same] at hw
      refine wpOp_do ho (wanted_none rfl _) rfl (ww.setCell ⟨g2, o2, none⟩ v2) ?_ (hI.mute' 17 rfl ?_)
      · unfold execOp
        simp only [u_16, u_5, Sem.run_bind, hs2 ww _ hI.wp.c2 hlen, Result.andThen_ok, Sem.run_pure]
      · rw [ran_same listed (i := 17) (by omega), ran_ne listed (i := 17) (k := 13) (by decide), ran_ne listed (i := 17) (k := 15) (by decide), ran_ne listed (i := 17) (k := 19) (by decide), ran_ne listed (i := 17) (k := 21) (by decide), ran_ne listed (i := 17) (k := 23) (by decide)]
        exact hw
    | 18, ho =>
      obtain rfl := pick_op ho rfl
      refine wpOp_go ho (wanted_none rfl _) b3 rfl (.pointer (some ⟨g2, o3, none⟩)) ww ?_ (hI.put' hfit 18 b3 _ (ma 15 rfl) (by rw [ran_ne listed (i := 18) (k := 13) (by decide), ran_ne listed (i := 18) (k := 15) (by decide), ran_ne listed (i := 18) (k := 17) (by decide), ran_ne listed (i := 18) (k := 19) (by decide), ran_ne listed (i := 18) (k := 21) (by decide), ran_ne listed (i := 18) (k := 23) (by decide)]; exact hI.wp))
      unfold execOp
      simp only [u2, Sem.run_bind, hf3, Result.andThen_ok, Sem.run_pure]
    | 19, ho =>
      obtain rfl := pick_op ho rfl
      have u_18 : aa.eval (.tmp b3) = .pointer (some ⟨g2, o3, none⟩) := by
        obtain ⟨ed, hed, hbd, hon⟩ := e19_18
        have hl := hd ed hed hbd
        rw [hon] at hl
        exact hI.vs (18, b3, .pointer (some ⟨g2, o3, none⟩)) (ma 15 rfl) hl
      have u_7 : aa.eval (.tmp l3) = v3 := by
        obtain ⟨ed, hed, hbd, hon⟩ := e19_7
        have hl := hd ed hed hbd
        rw [hon] at hl
        exact hI.vs (7, l3, v3) (ma 7 rfl) hl
      have hlen : o3 < ((setIf (listed.getD 13 false) o0 v0 (setIf (listed.getD 15 false) o1 v1 (setIf (listed.getD 17 false) o2 v2 (setIf (listed.getD 19 false) o3 v3 (setIf (listed.getD 21 false) o4 v4 (setIf (listed.getD 23 false) o5 v5 L2))))))).length := by simp only [setIf_length]; exact hb3
      have hw := hI.wp.set o3 v3 (by simp only [setIf_length]; exact hb3)
      rw [setIf_ne (Ne.symm n0_3), setIf_ne (Ne.symm n1_3), setIf_ne (Ne.symm n2_3), setIf_same] at hw
      refine wpOp_do ho (wanted_none rfl _) rfl (ww.setCell ⟨g2, o3, none⟩ v3) ?_ (hI.mute' 19 rfl ?_)
      · unfold execOp
        simp only [u_18, u_7, Sem.run_bind, hs3 ww _ hI.wp.c2 hlen, Result.andThen_ok, Sem.run_pure]
      · rw [ran_same listed (i := 19) (by omega), ran_ne listed (i := 19) (k := 13) (by decide), ran_ne listed (i := 19) (k := 15) (by decide), ran_ne listed (i := 19) (k := 17) (by decide), ran_ne listed (i := 19) (k := 21) (by decide), ran_ne listed (i := 19) (k := 23) (by decide)]
        exact hw
    | 20, ho =>
      obtain rfl := pick_op ho rfl
      refine wpOp_go ho (wanted_none rfl _) b4 rfl (.pointer (some ⟨g2, o4, none⟩)) ww ?_ (hI.put' hfit 20 b4 _ (ma 16 rfl) (by rw [ran_ne listed (i := 20) (k := 13) (by decide), ran_ne listed (i := 20) (k := 15) (by decide), ran_ne listed (i := 20) (k := 17) (by decide), ran_ne listed (i := 20) (k := 19) (by decide), ran_ne listed (i := 20) (k := 21) (by decide), ran_ne listed (i := 20) (k := 23) (by decide)]; exact hI.wp))
      unfold execOp
      simp only [u2, Sem.run_bind, hf4, Result.andThen_ok, Sem.run_pure]
    | 21, ho =>
      obtain rfl := pick_op ho rfl
      have u_20 : aa.eval (.tmp b4) = .pointer (some ⟨g2, o4, none⟩) := by
        obtain ⟨ed, hed, hbd, hon⟩ := e21_20
        have hl := hd ed hed hbd
        rw [hon] at hl
        exact hI.vs (20, b4, .pointer (some ⟨g2, o4, none⟩)) (ma 16 rfl) hl
      have u_9 : aa.eval (.tmp l4) = v4 := by
        obtain ⟨ed, hed, hbd, hon⟩ := e21_9
        have hl := hd ed hed hbd
        rw [hon] at hl
        exact hI.vs (9, l4, v4) (ma 9 rfl) hl
      have hlen : o4 < ((setIf (listed.getD 13 false) o0 v0 (setIf (listed.getD 15 false) o1 v1 (setIf (listed.getD 17 false) o2 v2 (setIf (listed.getD 19 false) o3 v3 (setIf (listed.getD 21 false) o4 v4 (setIf (listed.getD 23 false) o5 v5 L2))))))).length := by simp only [setIf_length]; exact hb4
      have hw := hI.wp.set o4 v4 (by simp only [setIf_length]; exact hb4)
      rw [setIf_ne (Ne.symm n0_4), setIf_ne (Ne.symm n1_4), setIf_ne (Ne.symm n2_4), setIf_ne (Ne.symm n3_4), setIf_same] at hw
      refine wpOp_do ho (wanted_none rfl _) rfl (ww.setCell ⟨g2, o4, none⟩ v4) ?_ (hI.mute' 21 rfl ?_)
      · unfold execOp
        simp only [u_20, u_9, Sem.run_bind, hs4 ww _ hI.wp.c2 hlen, Result.andThen_ok, Sem.run_pure]
      · rw [ran_same listed (i := 21) (by omega), ran_ne listed (i := 21) (k := 13) (by decide), ran_ne listed (i := 21) (k := 15) (by decide), ran_ne listed (i := 21) (k := 17) (by decide), ran_ne listed (i := 21) (k := 19) (by decide), ran_ne listed (i := 21) (k := 23) (by decide)]
        exact hw
    | 22, ho =>
      obtain rfl := pick_op ho rfl
      refine wpOp_go ho (wanted_none rfl _) b5 rfl (.pointer (some ⟨g2, o5, none⟩)) ww ?_ (hI.put' hfit 22 b5 _ (ma 17 rfl) (by rw [ran_ne listed (i := 22) (k := 13) (by decide), ran_ne listed (i := 22) (k := 15) (by decide), ran_ne listed (i := 22) (k := 17) (by decide), ran_ne listed (i := 22) (k := 19) (by decide), ran_ne listed (i := 22) (k := 21) (by decide), ran_ne listed (i := 22) (k := 23) (by decide)]; exact hI.wp))
      unfold execOp
      simp only [u2, Sem.run_bind, hf5, Result.andThen_ok, Sem.run_pure]
    | 23, ho =>
      obtain rfl := pick_op ho rfl
      have u_22 : aa.eval (.tmp b5) = .pointer (some ⟨g2, o5, none⟩) := by
        obtain ⟨ed, hed, hbd, hon⟩ := e23_22
        have hl := hd ed hed hbd
        rw [hon] at hl
        exact hI.vs (22, b5, .pointer (some ⟨g2, o5, none⟩)) (ma 17 rfl) hl
      have u_11 : aa.eval (.tmp l5) = v5 := by
        obtain ⟨ed, hed, hbd, hon⟩ := e23_11
        have hl := hd ed hed hbd
        rw [hon] at hl
        exact hI.vs (11, l5, v5) (ma 11 rfl) hl
      have hlen : o5 < ((setIf (listed.getD 13 false) o0 v0 (setIf (listed.getD 15 false) o1 v1 (setIf (listed.getD 17 false) o2 v2 (setIf (listed.getD 19 false) o3 v3 (setIf (listed.getD 21 false) o4 v4 (setIf (listed.getD 23 false) o5 v5 L2))))))).length := by simp only [setIf_length]; exact hb5
      have hw := hI.wp.set o5 v5 (by simp only [setIf_length]; exact hb5)
      rw [setIf_ne (Ne.symm n0_5), setIf_ne (Ne.symm n1_5), setIf_ne (Ne.symm n2_5), setIf_ne (Ne.symm n3_5), setIf_ne (Ne.symm n4_5), setIf_same] at hw
      refine wpOp_do ho (wanted_none rfl _) rfl (ww.setCell ⟨g2, o5, none⟩ v5) ?_ (hI.mute' 23 rfl ?_)
      · unfold execOp
        simp only [u_22, u_11, Sem.run_bind, hs5 ww _ hI.wp.c2 hlen, Result.andThen_ok, Sem.run_pure]
      · rw [ran_same listed (i := 23) (by omega), ran_ne listed (i := 23) (k := 13) (by decide), ran_ne listed (i := 23) (k := 15) (by decide), ran_ne listed (i := 23) (k := 17) (by decide), ran_ne listed (i := 23) (k := 19) (by decide), ran_ne listed (i := 23) (k := 21) (by decide)]
        exact hw
    | (k + 24), ho => simp at ho
  · intro listed aa ww hall hI
    have hw := hI.wp
    rw [hall 13 (by simp), hall 15 (by simp), hall 17 (by simp), hall 19 (by simp), hall 21 (by simp), hall 23 (by simp)] at hw
    exact hfin aa ww hI.sz hI.df (hI.fx (s1, _) (by simp)) (hI.fx (s2, _) (by simp)) (hI.fx (s4, _) (by simp)) hw
  · refine ⟨hsz, hdf, ?_, ?_, ?_⟩
    · intro f hf
      simp only [List.mem_cons, List.not_mem_nil, or_false] at hf
      rcases hf with rfl | rfl | rfl
      · exact h1
      · exact h2
      · exact h4
    · intro t ht hl
      rw [none_ran] at hl
      cases hl
    · rw [none_ran _ 13, none_ran _ 15, none_ran _ 17, none_ran _ 19, none_ran _ 21, none_ran _ 23]
      exact hT.drew
end
end Go.Proofs.YtkcdkjpmbjcmdaaDoor

/-
  Walking with a frame that is a letter, of which a list of slots is known: laws for each operation; no frame is ever written out.
-/
namespace Go.Proofs.YtkcdkjpmbjcmdaaDoor
open Go.RowKit

theorem gz {o : Oper} {y : Nat → Option Bool} (h : o.guard = none := by rfl) : Region.wanted o y = true := wanted_none h y
theorem nt {P : Program} {ops : Array Oper} {next : Act → World → Prop} {Q : Exit → Act → World → Prop} {a : Act} {w : World} (h : next a w) : wpList P ops (Exit.then next Q) [] a w := wpList_nil h
/-- a slot's value in a list, the newest first. -/
def look : List (Nat × Value) → Nat → Option Value
  | [], _ => none
  | (j, v) :: l, k => bif Nat.beq j k then some v else look l k
/-- an operand's value. -/
def evL (l : List (Nat × Value)) : Operand → Option Value
  | .tmp t => look l t
  | .const v => some v
  | .global g => some (.pointer (some ⟨g, 0, none⟩))
  | .func f => some (.func (.func f) #[] #[])
def evLs (l : List (Nat × Value)) : List Operand → Option (List Value)
  | [] => some []
  | x :: xs => match evL l x, evLs l xs with
    | some v, some vs => some (v :: vs)
    | _, _ => none
structure Has (a : Act) (n : Nat) (l : List (Nat × Value)) : Prop where
  sz : a.tmps.size = n
  df : a.defers = []
  at_ : ∀ k v, look l k = some v → a.eval (.tmp k) = v
def AllEv (a : Act) : List (Nat × Value) → Prop
  | [] => True
  | p :: l => a.eval (.tmp p.1) = p.2 ∧ AllEv a l
def KeepEv (l : List (Nat × Value)) : List (Nat × Value) → Prop
  | [] => True
  | p :: l' => look l p.1 = some p.2 ∧ KeepEv l l'

section
variable {a : Act} {n : Nat} {l : List (Nat × Value)}
theorem Has.of (hz : a.tmps.size = n) (hd : a.defers = []) (h : AllEv a l) : Has a n l := by
  refine ⟨hz, hd, ?_⟩
  induction l with
  | nil => intro k v e; cases e
  | cons p l ih =>
    obtain ⟨j, u⟩ := p
    intro k v e
    simp only [look] at e
    cases hb : Nat.beq j k with
    | true =>
      rw [hb, cond_true] at e
      injection e with e
      have := Nat.eq_of_beq_eq_true hb
      subst this; subst e
      exact h.1
    | false =>
      rw [hb, cond_false] at e
      exact ih h.2 k v e
theorem Has.keep {l' : List (Nat × Value)} (h : Has a n l) (hk : KeepEv l l') : Has a n l' := by
  refine Has.of h.sz h.df ?_
  induction l' with
  | nil => trivial
  | cons p l' ih => exact ⟨h.at_ _ _ hk.1, ih hk.2⟩
theorem Has.ev (h : Has a n l) {x : Operand} {v : Value} (hx : evL l x = some v) : a.eval x = v := by
  cases x with
  | tmp t => exact h.at_ t v hx
  | const u => injection hx
  | global g => injection hx
  | func f => injection hx
theorem Has.evs (h : Has a n l) : ∀ {xs : List Operand} {vs : List Value}, evLs l xs = some vs → xs.map a.eval = vs
  | [], vs, hx => by
    cases hx
    rfl
  | x :: xs, vs, hx => by
    unfold evLs at hx
    split at hx
    · next v vs' h1 h2 =>
      injection hx with hx
      rw [List.map_cons, h.ev h1, h.evs h2, hx]
    · cases hx
theorem Has.put (h : Has a n l) {d : Nat} (hd : Nat.blt d n = true) (v : Value) : Has (a.put (some d) v) n ((d, v) :: l) := by
  refine ⟨by rw [Act.size_put, h.sz], by rw [Act.defers_put', h.df], fun k u e => ?_⟩
  simp only [look] at e
  cases hb : Nat.beq d k with
  | true =>
    rw [hb, cond_true] at e
    injection e with e
    have := Nat.eq_of_beq_eq_true hb
    subst this; subst e
    exact Act.eval_put_same _ _ _ (by rw [h.sz]; simpa [Nat.blt_eq] using hd)
  | false =>
    rw [hb, cond_false] at e
    rw [Act.eval_put_ne _ _ _ _ (by intro e2; subst e2; rw [Nat.beq_refl] at hb; cases hb)]
    exact h.at_ k u e
/-- the frame becomes a letter. -/
theorem Has.start {P : Program} {c : Code} {Q : Exit → Act → World → Prop} {w : World} (n : Nat) (l : List (Nat × Value)) (hz : a.tmps.size = n) (hd : a.defers = []) (h : AllEv a l) (k : ∀ a, Has a n l → c.wp P Q a w) : c.wp P Q a w :=
  k a (Has.of hz hd h)
end
theorem then_normal {next : Act → World → Prop} {Q : Exit → Act → World → Prop} {a : Act} {w : World} (h : next a w) : Exit.then next Q .normal a w := h

section
variable {P : Program} {ops : Array Oper} {rest : List Oper} {o : Oper} {a : Act} {w : World} {Q : Exit → Act → World → Prop} {n : Nat} {l : List (Nat × Value)}
theorem Has.go (H : Has a n l) (hw : Region.wanted o (yielded ops a.tmps) = true) {d : Nat} (hd : o.dst = some d) (hn : Nat.blt d n = true) (v : Value) {w' : World} (hrun : (execOp a.eval o).run P w = .ok (.value v) w')
    (h : ∀ a', Has a' n ((d, v) :: l) → wpList P ops Q rest a' w') : wpList P ops Q (o :: rest) a w :=
  wpList_go hw d hd v w' hrun (h _ (H.put hn v))
theorem Has.run0 (H : Has a n l) (hw : Region.wanted o (yielded ops a.tmps) = true) (hd : o.dst = none) {w' : World} (hrun : (execOp a.eval o).run P w = .ok .skip w')
    (h : ∀ a', Has a' n l → wpList P ops Q rest a' w') : wpList P ops Q (o :: rest) a w := by
  unfold wpList
  rw [if_pos hw]
  left
  unfold Oper.wp
  rw [hrun, Oper.upon_skip, hd]
  exact h a H
/-- a guarded operation is wanted, or not. -/
theorem Has.wt (H : Has a n l) {j d : Nat} {b : Bool} (hg : o.guard = some (j, b)) (hj : (ops[j]?).bind (·.dst) = some d) (hv : look l d = some (.bool b)) : Region.wanted o (yielded ops a.tmps) = true := by
  have hy := yielded_of hj (H.at_ d _ hv)
  cases b with
  | true => exact wanted_of hg hy
  | false => rw [wantedf_of hg hy]; rfl
theorem Has.wf (H : Has a n l) {j d : Nat} {b : Bool} (hg : o.guard = some (j, b)) (hj : (ops[j]?).bind (·.dst) = some d) (hv : look l d = some (.bool !b)) : Region.wanted o (yielded ops a.tmps) = false := by
  have hy := yielded_of hj (H.at_ d _ hv)
  cases b with
  | true => exact wanted_of hg hy
  | false => rw [wantedf_of hg hy]; rfl
theorem Has.off (H : Has a n l) {j d k : Nat} {b : Bool} (hg : o.guard = some (j, b)) (hj : (ops[j]?).bind (·.dst) = some d) (hv : look l d = some (.bool !b)) (hd : o.dst = some k) (hn : Nat.blt k n = true)
    (h : ∀ a', Has a' n ((k, undef) :: l) → wpList P ops Q rest a' w) : wpList P ops Q (o :: rest) a w :=
  wpList_off (Has.wf H hg hj hv) k hd (h _ (H.put hn undef))

theorem Has.field (H : Has a n l) (hw : Region.wanted o (yielded ops a.tmps) = true) {S f d g off : Nat} {x : Operand} (ho : o.op = .fieldAddr S x f) (hd : o.dst = some d) (hn : Nat.blt d n = true) (hx : evL l x = some (.pointer (some ⟨g, 0, none⟩)))
    (hf : ∀ g w, (Instr.fieldAt S (.pointer (some ⟨g, 0, none⟩)) f).run P w = .ok (.pointer (some ⟨g, off, none⟩)) w) (h : ∀ a', Has a' n ((d, .pointer (some ⟨g, off, none⟩)) :: l) → wpList P ops Q rest a' w) : wpList P ops Q (o :: rest) a w := by
  refine H.go hw hd hn _ ?_ h
  unfold execOp
  simp only [ho, H.ev hx, Sem.run_bind, hf, Result.andThen_ok, Sem.run_pure]
theorem Has.load (H : Has a n l) (hw : Region.wanted o (yielded ops a.tmps) = true) {T d : Nat} {x : Operand} {p v : Value} (ho : o.op = .load T x) (hd : o.dst = some d) (hn : Nat.blt d n = true) (hx : evL l x = some p) (hl : (Instr.loadAt T p).run P w = .ok v w)
    (h : ∀ a', Has a' n ((d, v) :: l) → wpList P ops Q rest a' w) : wpList P ops Q (o :: rest) a w := by
  refine H.go hw hd hn _ ?_ h
  unfold execOp
  simp only [ho, H.ev hx, Sem.run_bind, hl, Result.andThen_ok, Sem.run_pure]
theorem Has.store (H : Has a n l) (hw : Region.wanted o (yielded ops a.tmps) = true) {T : Nat} {x y : Operand} {p v : Value} {w' : World} (ho : o.op = .store T x y) (hd : o.dst = none) (hx : evL l x = some p) (hy : evL l y = some v) (hl : (Instr.storeAt T p v).run P w = .ok () w')
    (h : ∀ a', Has a' n l → wpList P ops Q rest a' w') : wpList P ops Q (o :: rest) a w := by
  refine H.run0 hw hd (w' := w') ?_ h
  unfold execOp
  simp only [ho, H.ev hx, H.ev hy, Sem.run_bind, hl, Result.andThen_ok, Sem.run_pure]
theorem Has.loadS (H : Has a n l) (hgd : o.guard = none) {T d g : Nat} {x : Operand} {L : List Value} (ho : o.op = .load T x) (hd : o.dst = some d) (hn : Nat.blt d n = true) (hx : evL l x = some (.pointer (some ⟨g, 0, none⟩))) (hC : Cells w g L) {du : TypeDesc}
    (hu : P.underlying T = some du) (hr : du.isRow = true) {m : Nat} (hi : (P.info? T).map (·.size) = some m) (hl : L.length = m) (h : ∀ a', Has a' n ((d, .agg L.toArray) :: l) → wpList P ops Q rest a' w) : wpList P ops Q (o :: rest) a w :=
  wpList_load_cells hgd T x ho g (H.ev hx) hC du hu hr m hi hl (by rw [hd]; exact h _ (H.put hn _))
theorem Has.storeS (H : Has a n l) (hgd : o.guard = none) {T g : Nat} {x y : Operand} {L L0 : List Value} (ho : o.op = .store T x y) (hd : o.dst = none) (hx : evL l x = some (.pointer (some ⟨g, 0, none⟩))) (hy : evL l y = some (.agg L.toArray)) (hC : Cells w g L0)
    {m : Nat} (hi : (P.info? T).map (·.size) = some m) (hl0 : L0.length = m) (hl1 : L.length = m) (h1 : L.all (·.oneCell') = true)
    (h : ∀ a' w', Has a' n l → w.grownBy w' (some g) → w'.heap.size = w.heap.size → Cells w' g L → wpList P ops Q rest a' w') : wpList P ops Q (o :: rest) a w :=
  wpList_store_cells hgd T x y ho g (H.ev hx) L (H.ev hy) hC m hi hl0 hl1 h1 (fun w' hg hs hC' => by rw [hd]; exact h a w' H hg hs hC')
theorem Has.move (H : Has a n l) (hw : Region.wanted o (yielded ops a.tmps) = true) {d : Nat} {x : Operand} {v : Value} (ho : o.op = .move x ∨ o.op = .assign x) (hd : o.dst = some d) (hn : Nat.blt d n = true) (hx : evL l x = some v)
    (h : ∀ a', Has a' n ((d, v) :: l) → wpList P ops Q rest a' w) : wpList P ops Q (o :: rest) a w := by
  refine H.go hw hd hn _ ?_ h
  rw [← H.ev hx]
  unfold execOp
  rcases ho with ho | ho <;> simp only [ho] <;> rfl
theorem Has.pick (H : Has a n l) (hw : Region.wanted o (yielded ops a.tmps) = true) {d : Nat} {c x y : Operand} {b : Bool} {v : Value} (ho : o.op = .pick c x y) (hd : o.dst = some d) (hn : Nat.blt d n = true) (hc : evL l c = some (.bool b)) (hx : (if b then evL l x else evL l y) = some v)
    (h : ∀ a', Has a' n ((d, v) :: l) → wpList P ops Q rest a' w) : wpList P ops Q (o :: rest) a w := by
  refine H.go hw hd hn _ ?_ h
  unfold execOp
  simp only [ho, H.ev hc]
  cases b with
  | true => rw [if_pos rfl] at hx; rw [← H.ev hx]; rfl
  | false => rw [if_neg (by decide)] at hx; rw [← H.ev hx]; rfl
theorem Has.bin (H : Has a n l) (hw : Region.wanted o (yielded ops a.tmps) = true) {d : Nat} {b : BinOp} {T T' : TypeId} {x y : Operand} {u v r : Value} (ho : o.op = .binOp b T x y T') (hd : o.dst = some d) (hn : Nat.blt d n = true) (hx : evL l x = some u) (hy : evL l y = some v)
    (hq : (do eqGuard b T x y u v; binOp b T u v : Sem Value).run P w = .ok r w) (h : ∀ a', Has a' n ((d, r) :: l) → wpList P ops Q rest a' w) : wpList P ops Q (o :: rest) a w := by
  refine H.go hw hd hn r ?_ h
  unfold execOp
  rw [Sem.run_bind] at hq
  simp only [ho, H.ev hx, H.ev hy, Sem.run_bind, hq, Result.andThen_ok, Sem.run_pure]
theorem Has.un (H : Has a n l) (hw : Region.wanted o (yielded ops a.tmps) = true) {d : Nat} {b : UnOp} {T : TypeId} {x : Operand} {u r : Value} (ho : o.op = .unOp b T x) (hd : o.dst = some d) (hn : Nat.blt d n = true) (hx : evL l x = some u)
    (hq : (Op.unary b u).run P w = .ok r w) (h : ∀ a', Has a' n ((d, r) :: l) → wpList P ops Q rest a' w) : wpList P ops Q (o :: rest) a w := by
  refine H.go hw hd hn r ?_ h
  unfold execOp
  simp only [ho, H.ev hx, Sem.run_bind, hq, Result.andThen_ok, Sem.run_pure]
theorem Has.conv (H : Has a n l) (hw : Region.wanted o (yielded ops a.tmps) = true) {d : Nat} {T T' : TypeId} {x : Operand} {u r : Value} {w' : World} (ho : o.op = .convert T T' x) (hd : o.dst = some d) (hn : Nat.blt d n = true) (hx : evL l x = some u)
    (hq : (convert T T' u).run P w = .ok r w') (h : ∀ a', Has a' n ((d, r) :: l) → wpList P ops Q rest a' w') : wpList P ops Q (o :: rest) a w := by
  refine H.go hw hd hn r (w' := w') ?_ h
  unfold execOp
  simp only [ho, H.ev hx, Sem.run_bind, hq, Result.andThen_ok, Sem.run_pure]
theorem Has.extract (H : Has a n l) (hw : Region.wanted o (yielded ops a.tmps) = true) {d i : Nat} {x : Operand} {u r : Value} (ho : o.op = .extract x i) (hd : o.dst = some d) (hn : Nat.blt d n = true) (hx : evL l x = some u)
    (hq : (Instr.extract u i).run P w = .ok r w) (h : ∀ a', Has a' n ((d, r) :: l) → wpList P ops Q rest a' w) : wpList P ops Q (o :: rest) a w := by
  refine H.go hw hd hn r ?_ h
  unfold execOp
  simp only [ho, H.ev hx, Sem.run_bind, hq, Result.andThen_ok, Sem.run_pure]
theorem Has.call (H : Has a n l) (hw : Region.wanted o (yielded ops a.tmps) = true) {d : Nat} {f : FuncId} {xs : Array Operand} {ats : Array TypeId} {vs : List Value} (ho : o.op = .call { callee := .value (.func f), args := xs, argTypes := ats }) (hd : o.dst = some d) (hn : Nat.blt d n = true) (hx : evLs l xs.toList = some vs)
    (hen : ∀ (args : Array Value) (w : World), (callFunc f args).run P w = .ok (.enter f args) w) {R : Value → World → Prop} (hc : Calls P f vs.toArray w fun e w' => ∃ v, e = .returned v ∧ R v w')
    (h : ∀ a' v w', R v w' → Has a' n ((d, v) :: l) → wpList P ops Q rest a' w') : wpList P ops Q (o :: rest) a w := by
  refine wpList_enter hw d hd f vs.toArray ?_ R hc (fun v w' hR => h _ v w' hR (H.put hn v))
  have e : xs.map a.eval = vs.toArray := by
    rw [← H.evs hx, ← Array.toList_map, Array.toArray_toList]
  have : execOp a.eval o = callFunc f (xs.map a.eval) := by
    obtain ⟨dst, op, ty, pos, after, guard⟩ := o
    have ho' : op = .call { callee := .value (.func f), args := xs, argTypes := ats } := ho
    subst ho'
    rw [execOp_call_go]
    simp
  rw [this, hen, e]
theorem Has.alloc (H : Has a n l) (hgd : o.guard = none) {T d : Nat} (ho : o.op = .alloc T) (hd : o.dst = some d) (hn : Nat.blt d n = true) (L : List Value) (hz : ∀ w, (zeroValue T).run P w = .ok (.agg L.toArray) w)
    (h : ∀ a' w', Below w.heap.size w w' → w'.heap.size = w.heap.size + 1 → Cells w' w.heap.size L → Has a' n ((d, .pointer (some ⟨w.heap.size, 0, none⟩)) :: l) → wpList P ops Q rest a' w') : wpList P ops Q (o :: rest) a w :=
  wpList_alloc_cells hgd T ho L hz w.heap.size rfl (fun w' hb hs hC => by rw [hd]; exact h _ w' hb hs hC (H.put hn _))
theorem Has.box (H : Has a n l) (hgd : o.guard = none) {T d : Nat} {x : Operand} {L : List Value} (ho : o.op = .box T x) (hd : o.dst = some d) (hn : Nat.blt d n = true) (hx : evL l x = some (.agg L.toArray))
    (h : ∀ a' w', Below w.heap.size w w' → w'.heap.size = w.heap.size + 1 → Cells w' w.heap.size L → Has a' n ((d, .pointer (some ⟨w.heap.size, 0, none⟩)) :: l) → wpList P ops Q rest a' w') : wpList P ops Q (o :: rest) a w :=
  wpList_box_cells hgd T x ho L (H.ev hx) w.heap.size rfl (fun w' hb hs hC => by rw [hd]; exact h _ w' hb hs hC (H.put hn _))
/-- whatever operation, its operands known. -/
theorem Has.any (H : Has a n l) (hw : Region.wanted o (yielded ops a.tmps) = true) {d : Nat} (hd : o.dst = some d) (hn : Nat.blt d n = true) (v : Value) {w' : World} (hs : ∀ cs b, o.op ≠ .select cs b) (hk : o.op.operands.all (fun x => (evL l x).isSome) = true)
    (hrun : (execOp (fun x => (evL l x).getD undef) o).run P w = .ok (.value v) w') (h : ∀ a', Has a' n ((d, v) :: l) → wpList P ops Q rest a' w') : wpList P ops Q (o :: rest) a w := by
  refine H.go hw hd hn v ?_ h
  rw [← hrun]
  congr 1
  refine execOp_congr o hs (fun x hx => ?_)
  obtain ⟨u, hu⟩ := Option.isSome_iff_exists.1 (Array.all_eq_true'.1 hk x hx)
  rw [H.ev hu, hu]
  rfl
theorem Has.cond (H : Has a n l) {c : Operand} {x y : Code} {t : Bool} (hc : evL l c = some (.bool t)) (h : (if t then x else y).wp P Q a w) : (Code.cond c x y).wp P Q a w := wp_cond (H.ev hc) h
end
theorem Has.condT {P : Program} {a : Act} {w : World} {Q : Exit → Act → World → Prop} {n : Nat} {l : List (Nat × Value)} (H : Has a n l) {c : Operand} {x y : Code} (hc : evL l c = some (.bool true)) (h : x.wp P Q a w) : (Code.cond c x y).wp P Q a w := wp_cond_true (H.ev hc) h
theorem Has.condF {P : Program} {a : Act} {w : World} {Q : Exit → Act → World → Prop} {n : Nat} {l : List (Nat × Value)} (H : Has a n l) {c : Operand} {x y : Code} (hc : evL l c = some (.bool false)) (h : y.wp P Q a w) : (Code.cond c x y).wp P Q a w := wp_cond_false (H.ev hc) h
theorem block_normal {id : Nat} {Q : Exit → Act → World → Prop} {a : Act} {w : World} (h : Q .normal a w) : Exit.inBlock id Q .normal a w := h
theorem block_ret {id : Nat} {Q : Exit → Act → World → Prop} {a : Act} {w : World} (h : Q .ret a w) : Exit.inBlock id Q .ret a w := h
theorem then_ret {next : Act → World → Prop} {Q : Exit → Act → World → Prop} {a : Act} {w : World} (h : Q .ret a w) : Exit.then next Q .ret a w := h
theorem skip_wp {P : Program} {a : Act} {w : World} {Q : Exit → Act → World → Prop} (h : Q .normal a w) : Code.skip.wp P Q a w := wp_skip h

/-- blocks of one's own above B, each with the cells that it begins with; below B all is as in W. -/
structure Own (W : World) (B : Nat) (bs : List (Nat × List Value)) (w : World) : Prop where
  bel : Below B W w
  le : B ≤ w.heap.size
  nd : (bs.map (·.1)).Nodup
  mem : ∀ p ∈ bs, B ≤ p.1 ∧ p.1 < w.heap.size ∧ Cells w p.1 p.2
section
variable {W w w' : World} {B : Nat} {bs : List (Nat × List Value)}
theorem Own.start (W : World) : Own W W.heap.size [] W := ⟨Below.refl _ _, Nat.le_refl _, by simp, fun p hp => by cases hp⟩
theorem Own.call (h : Own W B bs w) (hb : Below w.heap.size w w') : Own W B bs w' :=
  ⟨h.bel.trans (hb.mono h.le), Nat.le_trans h.le hb.size, h.nd, fun p hp => ⟨(h.mem p hp).1, Nat.lt_of_lt_of_le (h.mem p hp).2.1 hb.size, (h.mem p hp).2.2.below hb (h.mem p hp).2.1⟩⟩
theorem Own.drew (h : Own W B bs w) : Own W B bs w.drew := h.call (Below.drew (Below.refl _ _))
theorem Own.alloc (h : Own W B bs w) (hb : Below w.heap.size w w') (hs : w'.heap.size = w.heap.size + 1) {L : List Value} (hC : Cells w' w.heap.size L) : Own W B ((w.heap.size, L) :: bs) w' := by
  refine ⟨h.bel.trans (hb.mono h.le), Nat.le_trans h.le hb.size, ?_, fun p hp => ?_⟩
  · rw [List.map_cons, List.nodup_cons]
    refine ⟨fun hm => ?_, h.nd⟩
    obtain ⟨p, hp, e⟩ := List.mem_map.1 hm
    have := (h.mem p hp).2.1
    omega
  · rcases List.mem_cons.1 hp with rfl | hp
    · exact ⟨h.le, by rw [hs]; exact Nat.lt_succ_self _, hC⟩
    · exact ⟨(h.mem p hp).1, Nat.lt_of_lt_of_le (h.mem p hp).2.1 hb.size, (h.mem p hp).2.2.below hb (h.mem p hp).2.1⟩
theorem Own.get (h : Own W B bs w) (i : Nat) {g : Nat} {L : List Value} (hi : bs[i]? = some (g, L)) : Cells w g L := (h.mem _ (List.mem_of_getElem? hi)).2.2
theorem Own.lt (h : Own W B bs w) (i : Nat) {g : Nat} {L : List Value} (hi : bs[i]? = some (g, L)) : g < w.heap.size := (h.mem _ (List.mem_of_getElem? hi)).2.1
theorem Own.ge (h : Own W B bs w) (i : Nat) {g : Nat} {L : List Value} (hi : bs[i]? = some (g, L)) : B ≤ g := (h.mem _ (List.mem_of_getElem? hi)).1
theorem nodup_get : ∀ {l : List Nat}, l.Nodup → ∀ {i j x : Nat}, l[i]? = some x → l[j]? = some x → i = j
  | [], _, i, j, x, hi, _ => by simp at hi
  | y :: l, h, i, j, x, hi, hj => by
    rw [List.nodup_cons] at h
    cases i with
    | zero =>
      cases j with
      | zero => rfl
      | succ j =>
        simp only [List.getElem?_cons_zero, Option.some.injEq] at hi
        subst hi
        exact absurd (List.mem_of_getElem? (by simpa using hj)) h.1
    | succ i =>
      cases j with
      | zero =>
        simp only [List.getElem?_cons_zero, Option.some.injEq] at hj
        subst hj
        exact absurd (List.mem_of_getElem? (by simpa using hi)) h.1
      | succ j => exact congrArg (· + 1) (nodup_get h.2 (by simpa using hi) (by simpa using hj))
theorem Own.store (h : Own W B bs w) (i : Nat) {g : Nat} {L L' : List Value} (hi : bs[i]? = some (g, L)) (hg : w.grownBy w' (some g)) (hs : w'.heap.size = w.heap.size) (hC : Cells w' g L') : Own W B (bs.set i (g, L')) w' := by
  have hgB := h.ge i hi
  have hglt := h.lt i hi
  have hli : i < bs.length := (List.getElem?_eq_some_iff.1 hi).1
  have hmap : (bs.set i (g, L')).map (·.1) = bs.map (·.1) := by
    apply List.ext_getElem?
    intro j
    rw [List.getElem?_map, List.getElem?_map, List.getElem?_set]
    by_cases e : i = j
    · subst e
      simp only [if_true, hli, hi, Option.map_some]
    · rw [if_neg e]
  refine ⟨h.bel.grown hg h.le (fun k hk => by injection hk with hk; rw [← hk]; exact hgB), by rw [hs]; exact h.le, by rw [hmap]; exact h.nd, fun p hp => ?_⟩
  obtain ⟨j, hj⟩ := List.getElem?_of_mem hp
  rw [List.getElem?_set] at hj
  by_cases e : i = j
  · rw [if_pos e, if_pos hli] at hj
    injection hj with hj
    subst hj
    exact ⟨hgB, by rw [hs]; exact hglt, hC⟩
  · rw [if_neg e] at hj
    have hm := h.mem p (List.mem_of_getElem? hj)
    refine ⟨hm.1, by rw [hs]; exact hm.2.1, hm.2.2.kept hg hm.2.1 (fun e2 => e ?_)⟩
    injection e2 with e2
    have h1 : (bs.map (·.1))[i]? = some g := by rw [List.getElem?_map, hi]; rfl
    have h2 : (bs.map (·.1))[j]? = some g := by rw [List.getElem?_map, hj, ← e2]; rfl
    exact nodup_get h.nd h1 h2
end
/-- a cell of a block of one's own is written. -/
theorem Has.storeC {P : Program} {ops : Array Oper} {rest : List Oper} {o : Oper} {a : Act} {w W : World} {B : Nat} {bs : List (Nat × List Value)} {Q : Exit → Act → World → Prop} {n : Nat} {l : List (Nat × Value)} (H : Has a n l) (hO : Own W B bs w) (i : Nat) {g j : Nat} {L : List Value} (hi : bs[i]? = some (g, L))
    (hw : Region.wanted o (yielded ops a.tmps) = true) {T : Nat} {x y : Operand} {v : Value} (ho : o.op = .store T x y) (hd : o.dst = none) (hx : evL l x = some (.pointer (some ⟨g, j, none⟩))) (hy : evL l y = some v) (hj : Nat.blt j L.length = true)
    (hst : ∀ u, w.cell? ⟨g, j, none⟩ = some u → w.frozen? ⟨g, j, none⟩ = false → (Instr.storeAt T (.pointer (some ⟨g, j, none⟩)) v).run P w = .ok () (w.setCell ⟨g, j, none⟩ v))
    (h : ∀ a' w', Has a' n l → Own W B (bs.set i (g, L.set j v)) w' → wpList P ops Q rest a' w') : wpList P ops Q (o :: rest) a w := by
  have hj' : j < L.length := by simpa [Nat.blt_eq] using hj
  have hC := hO.get i hi
  obtain ⟨c1, c2⟩ := hC j _ (List.getElem?_eq_getElem hj')
  refine H.store hw ho hd hx hy (hst _ c1 c2) (fun a' H' => h a' _ H' ?_)
  exact hO.store i hi (grown_setCell w g j v) (size_setCell' _ _ _) (hC.set j v hj')
theorem Own.two {W w : World} {B g1 g2 : Nat} {L1 L2 : List Value} (h : Own W B [(g2, L2), (g1, L1)] w) : Two W B g1 g2 L1 L2 w := by
  have hn := h.nd
  simp only [List.map_cons, List.map_nil, List.nodup_cons, List.mem_singleton] at hn
  exact ⟨h.get 1 rfl, h.get 0 rfl, h.lt 1 rfl, h.lt 0 rfl, fun e => hn.1 e.symm, h.ge 1 rfl, h.ge 0 rfl, h.bel⟩
theorem Two.own {W w : World} {B g1 g2 : Nat} {L1 L2 : List Value} (h : Two W B g1 g2 L1 L2 w) : Own W B [(g2, L2), (g1, L1)] w := by
  refine ⟨h.bel, Nat.le_of_lt (Nat.lt_of_le_of_lt h.b1 h.lt1), ?_, fun p hp => ?_⟩
  · simp only [List.map_cons, List.map_nil, List.nodup_cons, List.mem_singleton, List.not_mem_nil, not_false_iff, List.nodup_nil, and_true]
    exact fun e => h.ne e.symm
  · simp only [List.mem_cons, List.not_mem_nil, or_false] at hp
    rcases hp with rfl | rfl
    · exact ⟨h.b2, h.lt2, h.c2⟩
    · exact ⟨h.b1, h.lt1, h.c1⟩
theorem quietC {P : Program} {f : FuncId} {args : Array Value} {w : World} {v : Value} (h : Calls P f args w fun e w' => e = .returned v ∧ w = w') : Calls P f args w fun e w' => ∃ v', e = .returned v' ∧ (v' = v ∧ w = w') :=
  h.mono fun _ _ h => ⟨v, h.1, rfl, h.2⟩
theorem belowC {P : Program} {f : FuncId} {args : Array Value} {w : World} {v : Value} (h : Calls P f args w fun e w' => e = .returned v ∧ Below w.heap.size w w') : Calls P f args w fun e w' => ∃ v', e = .returned v' ∧ (v' = v ∧ Below w.heap.size w w') :=
  h.mono fun _ _ h => ⟨v, h.1, rfl, h.2⟩
end Go.Proofs.YtkcdkjpmbjcmdaaDoor

/-
  What the links of Same and EqMq do: fields' places, loads, equalities.
-/
namespace Go.Proofs.YtkcdkjpmbjcmdaaDoor
open Go.RowKit

theorem load1_i (g o : Nat) (v : Int) (w : World) (h : w.cell? ⟨g, o, none⟩ = some (.int .i64 v)) : (Instr.loadAt 3 (.pointer (some ⟨g, o, none⟩))).run Tryd.prog w = .ok (.int .i64 v) w := by
  simp [go_sem, h]
theorem load1_b (g o : Nat) (v : Bool) (w : World) (h : w.cell? ⟨g, o, none⟩ = some (.bool v)) : (Instr.loadAt 4 (.pointer (some ⟨g, o, none⟩))).run Tryd.prog w = .ok (.bool v) w := by
  simp [go_sem, h]
theorem load1_s (g o : Nat) (v : ByteArray) (w : World) (h : w.cell? ⟨g, o, none⟩ = some (.string v)) : (Instr.loadAt 9 (.pointer (some ⟨g, o, none⟩))).run Tryd.prog w = .ok (.string v) w := by
  simp [go_sem, h]
theorem field_0 (g : Nat) (w : World) : (Instr.fieldAt 30 (.pointer (some ⟨g, 0, none⟩)) 0).run Tryd.prog w = .ok (.pointer (some ⟨g, 0, none⟩)) w := by kernel_rfl
theorem field_1 (g : Nat) (w : World) : (Instr.fieldAt 30 (.pointer (some ⟨g, 0, none⟩)) 1).run Tryd.prog w = .ok (.pointer (some ⟨g, 1, none⟩)) w := by kernel_rfl
theorem field_2 (g : Nat) (w : World) : (Instr.fieldAt 30 (.pointer (some ⟨g, 0, none⟩)) 2).run Tryd.prog w = .ok (.pointer (some ⟨g, 2, none⟩)) w := by kernel_rfl
theorem field_3 (g : Nat) (w : World) : (Instr.fieldAt 30 (.pointer (some ⟨g, 0, none⟩)) 3).run Tryd.prog w = .ok (.pointer (some ⟨g, 3, none⟩)) w := by kernel_rfl
theorem field_4 (g : Nat) (w : World) : (Instr.fieldAt 30 (.pointer (some ⟨g, 0, none⟩)) 4).run Tryd.prog w = .ok (.pointer (some ⟨g, 4, none⟩)) w := by kernel_rfl
theorem field_5 (g : Nat) (w : World) : (Instr.fieldAt 30 (.pointer (some ⟨g, 0, none⟩)) 5).run Tryd.prog w = .ok (.pointer (some ⟨g, 9, none⟩)) w := by kernel_rfl
theorem field_6 (g : Nat) (w : World) : (Instr.fieldAt 30 (.pointer (some ⟨g, 0, none⟩)) 6).run Tryd.prog w = .ok (.pointer (some ⟨g, 10, none⟩)) w := by kernel_rfl
theorem field_7 (g : Nat) (w : World) : (Instr.fieldAt 30 (.pointer (some ⟨g, 0, none⟩)) 7).run Tryd.prog w = .ok (.pointer (some ⟨g, 11, none⟩)) w := by kernel_rfl
theorem field_8 (g : Nat) (w : World) : (Instr.fieldAt 30 (.pointer (some ⟨g, 0, none⟩)) 8).run Tryd.prog w = .ok (.pointer (some ⟨g, 12, none⟩)) w := by kernel_rfl
theorem field_9 (g : Nat) (w : World) : (Instr.fieldAt 30 (.pointer (some ⟨g, 0, none⟩)) 9).run Tryd.prog w = .ok (.pointer (some ⟨g, 13, none⟩)) w := by kernel_rfl
theorem field_10 (g : Nat) (w : World) : (Instr.fieldAt 30 (.pointer (some ⟨g, 0, none⟩)) 10).run Tryd.prog w = .ok (.pointer (some ⟨g, 14, none⟩)) w := by kernel_rfl
theorem field_11 (g : Nat) (w : World) : (Instr.fieldAt 30 (.pointer (some ⟨g, 0, none⟩)) 11).run Tryd.prog w = .ok (.pointer (some ⟨g, 15, none⟩)) w := by kernel_rfl
theorem field_12 (g : Nat) (w : World) : (Instr.fieldAt 30 (.pointer (some ⟨g, 0, none⟩)) 12).run Tryd.prog w = .ok (.pointer (some ⟨g, 16, none⟩)) w := by kernel_rfl
theorem field_13 (g : Nat) (w : World) : (Instr.fieldAt 30 (.pointer (some ⟨g, 0, none⟩)) 13).run Tryd.prog w = .ok (.pointer (some ⟨g, 17, none⟩)) w := by kernel_rfl
theorem field_14 (g : Nat) (w : World) : (Instr.fieldAt 30 (.pointer (some ⟨g, 0, none⟩)) 14).run Tryd.prog w = .ok (.pointer (some ⟨g, 18, none⟩)) w := by kernel_rfl
theorem field_15 (g : Nat) (w : World) : (Instr.fieldAt 30 (.pointer (some ⟨g, 0, none⟩)) 15).run Tryd.prog w = .ok (.pointer (some ⟨g, 19, none⟩)) w := by kernel_rfl
theorem field_16 (g : Nat) (w : World) : (Instr.fieldAt 30 (.pointer (some ⟨g, 0, none⟩)) 16).run Tryd.prog w = .ok (.pointer (some ⟨g, 20, none⟩)) w := by kernel_rfl
theorem field_17 (g : Nat) (w : World) : (Instr.fieldAt 30 (.pointer (some ⟨g, 0, none⟩)) 17).run Tryd.prog w = .ok (.pointer (some ⟨g, 21, none⟩)) w := by kernel_rfl
theorem field_18 (g : Nat) (w : World) : (Instr.fieldAt 30 (.pointer (some ⟨g, 0, none⟩)) 18).run Tryd.prog w = .ok (.pointer (some ⟨g, 22, none⟩)) w := by kernel_rfl
theorem field_19 (g : Nat) (w : World) : (Instr.fieldAt 30 (.pointer (some ⟨g, 0, none⟩)) 19).run Tryd.prog w = .ok (.pointer (some ⟨g, 23, none⟩)) w := by kernel_rfl
theorem eql_i (u v : Int) (x y : Operand) (w : World) : (do eqGuard .eql 3 x y (.int .i64 u) (.int .i64 v); binOp .eql 3 (.int .i64 u) (.int .i64 v) : Sem Value).run Tryd.prog w = .ok (.bool (u == v)) w := by
  simp [go_sem]
theorem eql_b (u v : Bool) (x y : Operand) (w : World) : (do eqGuard .eql 4 x y (.bool u) (.bool v); binOp .eql 4 (.bool u) (.bool v) : Sem Value).run Tryd.prog w = .ok (.bool (u == v)) w := by
  simp [go_sem]
theorem eql_s (u v : ByteArray) (x y : Operand) (w : World) : (do eqGuard .eql 9 x y (.string u) (.string v); binOp .eql 9 (.string u) (.string v) : Sem Value).run Tryd.prog w = .ok (.bool (u.toList == v.toList)) w := by
  simp [go_sem]
theorem load1_26 (g o n c : Nat) (A : Option Addr) (w : World) (h : w.cell? ⟨g, o, none⟩ = some (.slice A n c)) : (Instr.loadAt 26 (.pointer (some ⟨g, o, none⟩))).run Tryd.prog w = .ok (.slice A n c) w := by
  simp [go_sem, h]
theorem load1_27 (g o n c : Nat) (A : Option Addr) (w : World) (h : w.cell? ⟨g, o, none⟩ = some (.slice A n c)) : (Instr.loadAt 27 (.pointer (some ⟨g, o, none⟩))).run Tryd.prog w = .ok (.slice A n c) w := by
  simp [go_sem, h]
theorem load1_28 (g o n c : Nat) (A : Option Addr) (w : World) (h : w.cell? ⟨g, o, none⟩ = some (.slice A n c)) : (Instr.loadAt 28 (.pointer (some ⟨g, o, none⟩))).run Tryd.prog w = .ok (.slice A n c) w := by
  simp [go_sem, h]
theorem load_will (g : Nat) (l : List Value) (a : Bool) (b c : ByteArray) (d : Int) (e : Bool) (w : World) (hC : Cells w g l) (h4 : l[4]? = some (.bool a)) (h5 : l[5]? = some (.string b)) (h6 : l[6]? = some (.string c)) (h7 : l[7]? = some (.int .i64 d)) (h8 : l[8]? = some (.bool e)) :
    (Instr.loadAt 25 (.pointer (some ⟨g, 4, none⟩))).run Tryd.prog w = .ok (.agg #[.bool a, .string b, .string c, .int .i64 d, .bool e]) w := by
  have c4 := hC.get 4 _ h4
  have c5 := hC.get 5 _ h5
  have c6 := hC.get 6 _ h6
  have c7 := hC.get 7 _ h7
  have c8 := hC.get 8 _ h8
  simp [go_sem, c4, c5, c6, c7, c8]
theorem eql_w (a a' : Bool) (b b' c c' : ByteArray) (d d' : Int) (e e' : Bool) (x y : Operand) (w : World) : (do eqGuard .eql 25 x y (.agg #[.bool a, .string b, .string c, .int .i64 d, .bool e]) (.agg #[.bool a', .string b', .string c', .int .i64 d', .bool e']); binOp .eql 25 (.agg #[.bool a, .string b, .string c, .int .i64 d, .bool e]) (.agg #[.bool a', .string b', .string c', .int .i64 d', .bool e']) : Sem Value).run Tryd.prog w =
    .ok (.bool (a == a' && (b.toList == b'.toList && (c.toList == c'.toList && (d == d' && e == e'))))) w := by
  simp [go_sem]
  by_cases h1 : a = a'
  · by_cases h2 : b.toList = b'.toList
    · by_cases h3 : c.toList = c'.toList
      · by_cases h4 : d = d'
        · by_cases h5 : e = e' <;> simp [h1, h2, h3, h4, h5]
        · simp [h1, h2, h3, h4]
      · simp [h1, h2, h3]
    · simp [h1, h2]
  · simp [h1]
theorem ent_slInts (args : Array Value) (w : World) : (callFunc 94 args).run Tryd.prog w = .ok (.enter 94 args) w := by kernel_rfl
theorem ent_eqInts (args : Array Value) (w : World) : (callFunc 58 args).run Tryd.prog w = .ok (.enter 58 args) w := by kernel_rfl
theorem ent_slWishes (args : Array Value) (w : World) : (callFunc 95 args).run Tryd.prog w = .ok (.enter 95 args) w := by kernel_rfl
theorem ent_eqWishes (args : Array Value) (w : World) : (callFunc 59 args).run Tryd.prog w = .ok (.enter 59 args) w := by kernel_rfl
theorem ent_slStrs (args : Array Value) (w : World) : (callFunc 96 args).run Tryd.prog w = .ok (.enter 96 args) w := by kernel_rfl
theorem ent_eqStrs (args : Array Value) (w : World) : (callFunc 60 args).run Tryd.prog w = .ok (.enter 60 args) w := by kernel_rfl
end Go.Proofs.YtkcdkjpmbjcmdaaDoor

/-
  Two packets compared: pack.Same, the page's EqMq.
-/
namespace Go.Proofs.YtkcdkjpmbjcmdaaDoor
open Go.RowKit

/-- the same packet? -/
def Mq.same (a b : Mq) : Bool := ((a.kind == b.kind) && ((a.client.toList == b.client.toList) && ((a.clean == b.clean) && ((a.keep == b.keep) && ((a.won == b.won) && ((a.wt.toList == b.wt.toList) && ((a.wp.toList == b.wp.toList) && ((a.wq == b.wq) && ((a.wr == b.wr) && ((a.user.toList == b.user.toList) && ((a.hu == b.hu) && ((a.pass.toList == b.pass.toList) && ((a.hp == b.hp) && ((a.present == b.present) && ((a.code == b.code) && (eqG a.codes b.codes && ((a.dup == b.dup) && ((a.qos == b.qos) && ((a.retain == b.retain) && ((a.topic.toList == b.topic.toList) && ((a.id == b.id) && ((a.payload.toList == b.payload.toList) && (eqG a.wishes b.wishes && eqG a.filters b.filters)))))))))))))))))))))))
theorem str_eq {u v : ByteArray} (h : (u.toList == v.toList) = true) : u = v := by
  rw [beq_iff_eq, Lib.toList_data, Lib.toList_data] at h
  exact ByteArray.ext (Array.toList_inj.1 h)
theorem same_iff (a b : Mq) : Mq.same a b = true ↔ a = b := by
  constructor
  · intro h
    unfold Mq.same at h
    simp only [Bool.and_eq_true] at h
    obtain ⟨h0, h1, h2, h3, h4, h5, h6, h7, h8, h9, h10, h11, h12, h13, h14, h15, h16, h17, h18, h19, h20, h21, h22, h23⟩ := h
    cases a
    cases b
    simp only [Mq.mk.injEq]
    exact ⟨by simpa using h0, str_eq h1, by simpa using h2, by simpa using h3, by simpa using h4, str_eq h5, str_eq h6, by simpa using h7, by simpa using h8, str_eq h9, by simpa using h10, str_eq h11, by simpa using h12, by simpa using h13, by simpa using h14, of_decide_eq_true h15, by simpa using h16, by simpa using h17, by simpa using h18, str_eq h19, by simpa using h20, str_eq h21, of_decide_eq_true h22, of_decide_eq_true h23⟩
  · rintro rfl
    simp [Mq.same, eqG_same]
/-- what a packet's lists read as, below B. -/
def MqL (w : World) (B : Nat) (m : Mq) (vc vw vf : Value) : Prop :=
  ∃ A1 c1 A2 c2 A3 c3, vc = .slice A1 m.codes.length c1 ∧ vw = .slice A2 m.wishes.length c2 ∧ vf = .slice A3 m.filters.length c3 ∧
    m.codes.length ≤ c1 ∧ m.wishes.length ≤ c2 ∧ m.filters.length ≤ c3 ∧ m.codes.length ≤ 140737488351232 ∧ m.wishes.length ≤ 140737488351232 ∧ m.filters.length ≤ 140737488351232 ∧
    Reads w B 1 A1 m.codes.length (m.codes.map iv) ∧ Reads w B 2 A2 m.wishes.length (wv m.wishes) ∧ Reads w B 1 A3 m.filters.length (m.filters.map sv)
theorem MqL.next {w w' : World} {m : Mq} {vc vw vf : Value} (h : MqL w w.heap.size m vc vw vf) (hb : Below w.heap.size w w') : MqL w' w'.heap.size m vc vw vf := by
  obtain ⟨A1, c1, A2, c2, A3, c3, e1, e2, e3, l1, l2, l3, k1, k2, k3, r1, r2, r3⟩ := h
  exact ⟨A1, c1, A2, c2, A3, c3, e1, e2, e3, l1, l2, l3, k1, k2, k3, (r1.below hb).more hb.size, (r2.below hb).more hb.size, (r3.below hb).more hb.size⟩
theorem Reads.next {w w' : World} {size n : Nat} {A : Option Addr} {xs : List Value} (h : Reads w w.heap.size size A n xs) (hb : Below w.heap.size w w') : Reads w' w'.heap.size size A n xs := (h.below hb).more hb.size

set_option maxRecDepth 100000 in
set_option maxHeartbeats 6400000 in
theorem packSame (a b : Mq) (va vwa vfa vb vwb vfb : Value) (w : World) (ha : MqL w w.heap.size a va vwa vfa) (hb : MqL w w.heap.size b vb vwb vfb) :
    Calls Tryd.prog 73 #[.agg (mqCells a va vwa vfa).toArray, .agg (mqCells b vb vwb vfb).toArray] w fun e w' => e = .returned (.bool (Mq.same a b)) ∧ Below w.heap.size w w' := by
  obtain ⟨A1, p1, A2, p2, A3, p3, rfl, rfl, rfl, _, _, _, k1, k2, k3, r1, r2, r3⟩ := ha
  obtain ⟨B1, q1, B2, q2, B3, q3, rfl, rfl, rfl, _, _, _, _, _, _, s1, s2, s3⟩ := hb
  have K1 := Lib.hid (fun w1 h => slInts a.codes b.codes A1 B1 p1 q1 w1 (r1.next h) (s1.next h) (by omega))
  have K2 := Lib.hid (fun w1 h => slWishes a.wishes b.wishes A2 B2 p2 q2 w1 (r2.next h) (s2.next h) (by omega))
  have K3 := Lib.hid (fun w1 h => slStrs a.filters b.filters A3 B3 p3 q3 w1 (r3.next h) (s3.next h) (by omega))
  clear r1 r2 r3 s1 s2 s3 k1 k2 k3
  have tok1 : True := trivial
  have tok2 : True := trivial
  go_enter Tryd.func73, Tryd.ntmps73
  go_upto_region 1 with (first
    | (have _t := tok1; (with_reducible refine wpList_box_cells ?_ 30 (.tmp 0) ?_ (mqCells a (.slice A1 a.codes.length p1) (.slice A2 a.wishes.length p2) (.slice A3 a.filters.length p3)) ?_ w.heap.size ?_ ?_); exact rfl; exact rfl; exact rfl; exact rfl; intro w1 hb1 hs1 hC1; have HS1 := Lib.hid hs1; have HC1 := Lib.hid hC1; have HB1 := Lib.hid hb1; clear tok1 _t hs1 hC1 hb1)
    | (have _t := tok2; have _s := HS1; (with_reducible refine wpList_box_cells ?_ 30 (.tmp 1) ?_ (mqCells b (.slice B1 b.codes.length q1) (.slice B2 b.wishes.length q2) (.slice B3 b.filters.length q3)) ?_ (w.heap.size + 1) ?_ ?_); exact rfl; exact rfl; exact rfl; exact HS1.out; intro w2 hb2 hs2 hC2; have HA2 := Lib.hid (HC1.out.below hb2 (Nat.lt_succ_self _)); have HB2 := Lib.hid hC2; have HW2 := Lib.hid (HB1.out.trans (hb2.mono (Nat.le_succ _))); have HLa2 := Lib.hid (show w.heap.size < w2.heap.size by omega); have HLb2 := Lib.hid (show w.heap.size + 1 < w2.heap.size by omega); clear tok2 _t _s hs2 hC2 hb2))
  rename_i K hK
  refine wp_region_list ?_
  refine wpList_link0 (n := 143) (ga := w.heap.size) (gb := w.heap.size + 1) rfl rfl rfl rfl (by decide) rfl rfl rfl rfl (by decide) field_0 (load1_i _ _ _ _ (HA2.out.get 0 _ rfl)) (load1_i _ _ _ _ (HB2.out.get 0 _ rfl)) (eql_i _ _ _ _ _) ?_
  intro a1 F1
  refine wpList_link F1 (by decide) rfl rfl rfl rfl rfl rfl rfl (by decide) (by kernel_rfl) field_1 (load1_s _ _ _ _ (HA2.out.get 1 _ rfl)) (load1_s _ _ _ _ (HB2.out.get 1 _ rfl)) (eql_s _ _ _ _ _) ?_
  intro a2 F2
  refine wpList_link F2 (by decide) rfl rfl rfl rfl rfl rfl rfl (by decide) (by kernel_rfl) field_2 (load1_b _ _ _ _ (HA2.out.get 2 _ rfl)) (load1_b _ _ _ _ (HB2.out.get 2 _ rfl)) (eql_b _ _ _ _ _) ?_
  intro a3 F3
  refine wpList_link F3 (by decide) rfl rfl rfl rfl rfl rfl rfl (by decide) (by kernel_rfl) field_3 (load1_i _ _ _ _ (HA2.out.get 3 _ rfl)) (load1_i _ _ _ _ (HB2.out.get 3 _ rfl)) (eql_i _ _ _ _ _) ?_
  intro a4 F4
  refine wpList_link F4 (by decide) rfl rfl rfl rfl rfl rfl rfl (by decide) (by kernel_rfl) field_4 (load_will _ _ _ _ _ _ _ _ HA2.out rfl rfl rfl rfl rfl) (load_will _ _ _ _ _ _ _ _ HB2.out rfl rfl rfl rfl rfl) (eql_w _ _ _ _ _ _ _ _ _ _ _ _ _) ?_
  intro a5 F5
  refine wpList_link F5 (by decide) rfl rfl rfl rfl rfl rfl rfl (by decide) (by kernel_rfl) field_5 (load1_s _ _ _ _ (HA2.out.get 9 _ rfl)) (load1_s _ _ _ _ (HB2.out.get 9 _ rfl)) (eql_s _ _ _ _ _) ?_
  intro a6 F6
  refine wpList_link F6 (by decide) rfl rfl rfl rfl rfl rfl rfl (by decide) (by kernel_rfl) field_6 (load1_b _ _ _ _ (HA2.out.get 10 _ rfl)) (load1_b _ _ _ _ (HB2.out.get 10 _ rfl)) (eql_b _ _ _ _ _) ?_
  intro a7 F7
  refine wpList_link F7 (by decide) rfl rfl rfl rfl rfl rfl rfl (by decide) (by kernel_rfl) field_7 (load1_s _ _ _ _ (HA2.out.get 11 _ rfl)) (load1_s _ _ _ _ (HB2.out.get 11 _ rfl)) (eql_s _ _ _ _ _) ?_
  intro a8 F8
  refine wpList_link F8 (by decide) rfl rfl rfl rfl rfl rfl rfl (by decide) (by kernel_rfl) field_8 (load1_b _ _ _ _ (HA2.out.get 12 _ rfl)) (load1_b _ _ _ _ (HB2.out.get 12 _ rfl)) (eql_b _ _ _ _ _) ?_
  intro a9 F9
  refine wpList_link F9 (by decide) rfl rfl rfl rfl rfl rfl rfl (by decide) (by kernel_rfl) field_9 (load1_b _ _ _ _ (HA2.out.get 13 _ rfl)) (load1_b _ _ _ _ (HB2.out.get 13 _ rfl)) (eql_b _ _ _ _ _) ?_
  intro a10 F10
  refine wpList_link F10 (by decide) rfl rfl rfl rfl rfl rfl rfl (by decide) (by kernel_rfl) field_10 (load1_i _ _ _ _ (HA2.out.get 14 _ rfl)) (load1_i _ _ _ _ (HB2.out.get 14 _ rfl)) (eql_i _ _ _ _ _) ?_
  intro a11 F11
  refine wpList_linkC F11 (by decide) rfl rfl rfl rfl rfl rfl rfl (by decide) (by kernel_rfl) field_11 (load1_26 _ _ _ _ _ _ (HA2.out.get 15 _ rfl)) (load1_26 _ _ _ _ _ _ (HB2.out.get 15 _ rfl)) ent_slInts (K1.out w2 HW2.out) ?_
  intro a12 w3 F12 hx3
  have HW3 := Lib.hid (HW2.out.trans (hx3.mono HW2.out.size))
  have HA3 := Lib.hid (HA2.out.below hx3 HLa2.out)
  have HB3 := Lib.hid (HB2.out.below hx3 HLb2.out)
  have HLa3 := Lib.hid (Nat.lt_of_lt_of_le HLa2.out hx3.size)
  have HLb3 := Lib.hid (Nat.lt_of_lt_of_le HLb2.out hx3.size)
  clear hx3
  refine wpList_link F12 (by decide) rfl rfl rfl rfl rfl rfl rfl (by decide) (by kernel_rfl) field_12 (load1_b _ _ _ _ (HA3.out.get 16 _ rfl)) (load1_b _ _ _ _ (HB3.out.get 16 _ rfl)) (eql_b _ _ _ _ _) ?_
  intro a13 F13
  refine wpList_link F13 (by decide) rfl rfl rfl rfl rfl rfl rfl (by decide) (by kernel_rfl) field_13 (load1_i _ _ _ _ (HA3.out.get 17 _ rfl)) (load1_i _ _ _ _ (HB3.out.get 17 _ rfl)) (eql_i _ _ _ _ _) ?_
  intro a14 F14
  refine wpList_link F14 (by decide) rfl rfl rfl rfl rfl rfl rfl (by decide) (by kernel_rfl) field_14 (load1_b _ _ _ _ (HA3.out.get 18 _ rfl)) (load1_b _ _ _ _ (HB3.out.get 18 _ rfl)) (eql_b _ _ _ _ _) ?_
  intro a15 F15
  refine wpList_link F15 (by decide) rfl rfl rfl rfl rfl rfl rfl (by decide) (by kernel_rfl) field_15 (load1_s _ _ _ _ (HA3.out.get 19 _ rfl)) (load1_s _ _ _ _ (HB3.out.get 19 _ rfl)) (eql_s _ _ _ _ _) ?_
  intro a16 F16
  refine wpList_link F16 (by decide) rfl rfl rfl rfl rfl rfl rfl (by decide) (by kernel_rfl) field_16 (load1_i _ _ _ _ (HA3.out.get 20 _ rfl)) (load1_i _ _ _ _ (HB3.out.get 20 _ rfl)) (eql_i _ _ _ _ _) ?_
  intro a17 F17
  refine wpList_link F17 (by decide) rfl rfl rfl rfl rfl rfl rfl (by decide) (by kernel_rfl) field_17 (load1_s _ _ _ _ (HA3.out.get 21 _ rfl)) (load1_s _ _ _ _ (HB3.out.get 21 _ rfl)) (eql_s _ _ _ _ _) ?_
  intro a18 F18
  refine wpList_linkC F18 (by decide) rfl rfl rfl rfl rfl rfl rfl (by decide) (by kernel_rfl) field_18 (load1_27 _ _ _ _ _ _ (HA3.out.get 22 _ rfl)) (load1_27 _ _ _ _ _ _ (HB3.out.get 22 _ rfl)) ent_slWishes (K2.out w3 HW3.out) ?_
  intro a19 w4 F19 hx4
  have HW4 := Lib.hid (HW3.out.trans (hx4.mono HW3.out.size))
  have HA4 := Lib.hid (HA3.out.below hx4 HLa3.out)
  have HB4 := Lib.hid (HB3.out.below hx4 HLb3.out)
  have HLa4 := Lib.hid (Nat.lt_of_lt_of_le HLa3.out hx4.size)
  have HLb4 := Lib.hid (Nat.lt_of_lt_of_le HLb3.out hx4.size)
  clear hx4
  refine wpList_linkC F19 (by decide) rfl rfl rfl rfl rfl rfl rfl (by decide) (by kernel_rfl) field_19 (load1_28 _ _ _ _ _ _ (HA4.out.get 23 _ rfl)) (load1_28 _ _ _ _ _ _ (HB4.out.get 23 _ rfl)) ent_slStrs (K3.out w4 HW4.out) ?_
  intro a20 w5 F20 hx5
  have HW5 := Lib.hid (HW4.out.trans (hx5.mono HW4.out.size))
  have HA5 := Lib.hid (HA4.out.below hx5 HLa4.out)
  have HB5 := Lib.hid (HB4.out.below hx5 HLb4.out)
  have HLa5 := Lib.hid (Nat.lt_of_lt_of_le HLa4.out hx5.size)
  have HLb5 := Lib.hid (Nat.lt_of_lt_of_le HLb4.out hx5.size)
  clear hx5
  refine wpList_go (wanted_none rfl _) 4 rfl (a20.eval (.tmp 142)) w5 rfl ?_
  have hr : (a20.put (some 4) (a20.eval (.tmp 142))).eval (.tmp 4) = .bool (Mq.same a b) := by
    rw [Act.eval_put_same _ _ _ (by rw [F20.sz]; decide), F20.tk]
    simp only [Mq.same, Bool.and_assoc]
  have hdf : (a20.put (some 4) (a20.eval (.tmp 142))).defers = [] := by rw [Act.defers_put', F20.df]
  generalize a20.put (some 4) (a20.eval (.tmp 142)) = az at hr hdf
  refine wpList_nil ?_
  refine hK _ _ (wp_ret ?_)
  refine bodyPost_ret (results_tmp rfl _ _ _) hdf ⟨?_, HW5.out⟩
  exact congrArg Ending.returned hr

set_option maxRecDepth 100000 in
set_option maxHeartbeats 6400000 in
theorem refEqMq (a b : Mq) (va vwa vfa vb vwb vfb : Value) (w : World) (ha : MqL w w.heap.size a va vwa vfa) (hb : MqL w w.heap.size b vb vwb vfb) :
    Calls Tryd.prog 30 #[.agg (mqCells a va vwa vfa).toArray, .agg (mqCells b vb vwb vfb).toArray] w fun e w' => e = .returned (.bool (Mq.same a b)) ∧ Below w.heap.size w w' := by
  obtain ⟨A1, p1, A2, p2, A3, p3, rfl, rfl, rfl, _, _, _, k1, k2, k3, r1, r2, r3⟩ := ha
  obtain ⟨B1, q1, B2, q2, B3, q3, rfl, rfl, rfl, _, _, _, _, _, _, s1, s2, s3⟩ := hb
  have K1 := Lib.hid (fun w1 h => eqInts a.codes b.codes A1 B1 p1 q1 w1 (r1.next h) (s1.next h) (by omega))
  have K2 := Lib.hid (fun w1 h => eqWishes a.wishes b.wishes A2 B2 p2 q2 w1 (r2.next h) (s2.next h) (by omega))
  have K3 := Lib.hid (fun w1 h => eqStrs a.filters b.filters A3 B3 p3 q3 w1 (r3.next h) (s3.next h) (by omega))
  clear r1 r2 r3 s1 s2 s3 k1 k2 k3
  have tok1 : True := trivial
  have tok2 : True := trivial
  go_enter Tryd.func30, Tryd.ntmps30
  go_upto_region 1 with (first
    | (have _t := tok1; (with_reducible refine wpList_box_cells ?_ 30 (.tmp 0) ?_ (mqCells a (.slice A1 a.codes.length p1) (.slice A2 a.wishes.length p2) (.slice A3 a.filters.length p3)) ?_ w.heap.size ?_ ?_); exact rfl; exact rfl; exact rfl; exact rfl; intro w1 hb1 hs1 hC1; have HS1 := Lib.hid hs1; have HC1 := Lib.hid hC1; have HB1 := Lib.hid hb1; clear tok1 _t hs1 hC1 hb1)
    | (have _t := tok2; have _s := HS1; (with_reducible refine wpList_box_cells ?_ 30 (.tmp 1) ?_ (mqCells b (.slice B1 b.codes.length q1) (.slice B2 b.wishes.length q2) (.slice B3 b.filters.length q3)) ?_ (w.heap.size + 1) ?_ ?_); exact rfl; exact rfl; exact rfl; exact HS1.out; intro w2 hb2 hs2 hC2; have HA2 := Lib.hid (HC1.out.below hb2 (Nat.lt_succ_self _)); have HB2 := Lib.hid hC2; have HW2 := Lib.hid (HB1.out.trans (hb2.mono (Nat.le_succ _))); have HLa2 := Lib.hid (show w.heap.size < w2.heap.size by omega); have HLb2 := Lib.hid (show w.heap.size + 1 < w2.heap.size by omega); clear tok2 _t _s hs2 hC2 hb2))
  rename_i K hK
  refine wp_region_list ?_
  refine wpList_link0 (n := 143) (ga := w.heap.size) (gb := w.heap.size + 1) rfl rfl rfl rfl (by decide) rfl rfl rfl rfl (by decide) field_0 (load1_i _ _ _ _ (HA2.out.get 0 _ rfl)) (load1_i _ _ _ _ (HB2.out.get 0 _ rfl)) (eql_i _ _ _ _ _) ?_
  intro a1 F1
  refine wpList_link F1 (by decide) rfl rfl rfl rfl rfl rfl rfl (by decide) (by kernel_rfl) field_1 (load1_s _ _ _ _ (HA2.out.get 1 _ rfl)) (load1_s _ _ _ _ (HB2.out.get 1 _ rfl)) (eql_s _ _ _ _ _) ?_
  intro a2 F2
  refine wpList_link F2 (by decide) rfl rfl rfl rfl rfl rfl rfl (by decide) (by kernel_rfl) field_2 (load1_b _ _ _ _ (HA2.out.get 2 _ rfl)) (load1_b _ _ _ _ (HB2.out.get 2 _ rfl)) (eql_b _ _ _ _ _) ?_
  intro a3 F3
  refine wpList_link F3 (by decide) rfl rfl rfl rfl rfl rfl rfl (by decide) (by kernel_rfl) field_3 (load1_i _ _ _ _ (HA2.out.get 3 _ rfl)) (load1_i _ _ _ _ (HB2.out.get 3 _ rfl)) (eql_i _ _ _ _ _) ?_
  intro a4 F4
  refine wpList_link F4 (by decide) rfl rfl rfl rfl rfl rfl rfl (by decide) (by kernel_rfl) field_4 (load_will _ _ _ _ _ _ _ _ HA2.out rfl rfl rfl rfl rfl) (load_will _ _ _ _ _ _ _ _ HB2.out rfl rfl rfl rfl rfl) (eql_w _ _ _ _ _ _ _ _ _ _ _ _ _) ?_
  intro a5 F5
  refine wpList_link F5 (by decide) rfl rfl rfl rfl rfl rfl rfl (by decide) (by kernel_rfl) field_5 (load1_s _ _ _ _ (HA2.out.get 9 _ rfl)) (load1_s _ _ _ _ (HB2.out.get 9 _ rfl)) (eql_s _ _ _ _ _) ?_
  intro a6 F6
  refine wpList_link F6 (by decide) rfl rfl rfl rfl rfl rfl rfl (by decide) (by kernel_rfl) field_6 (load1_b _ _ _ _ (HA2.out.get 10 _ rfl)) (load1_b _ _ _ _ (HB2.out.get 10 _ rfl)) (eql_b _ _ _ _ _) ?_
  intro a7 F7
  refine wpList_link F7 (by decide) rfl rfl rfl rfl rfl rfl rfl (by decide) (by kernel_rfl) field_7 (load1_s _ _ _ _ (HA2.out.get 11 _ rfl)) (load1_s _ _ _ _ (HB2.out.get 11 _ rfl)) (eql_s _ _ _ _ _) ?_
  intro a8 F8
  refine wpList_link F8 (by decide) rfl rfl rfl rfl rfl rfl rfl (by decide) (by kernel_rfl) field_8 (load1_b _ _ _ _ (HA2.out.get 12 _ rfl)) (load1_b _ _ _ _ (HB2.out.get 12 _ rfl)) (eql_b _ _ _ _ _) ?_
  intro a9 F9
  refine wpList_link F9 (by decide) rfl rfl rfl rfl rfl rfl rfl (by decide) (by kernel_rfl) field_9 (load1_b _ _ _ _ (HA2.out.get 13 _ rfl)) (load1_b _ _ _ _ (HB2.out.get 13 _ rfl)) (eql_b _ _ _ _ _) ?_
  intro a10 F10
  refine wpList_link F10 (by decide) rfl rfl rfl rfl rfl rfl rfl (by decide) (by kernel_rfl) field_10 (load1_i _ _ _ _ (HA2.out.get 14 _ rfl)) (load1_i _ _ _ _ (HB2.out.get 14 _ rfl)) (eql_i _ _ _ _ _) ?_
  intro a11 F11
  refine wpList_linkC F11 (by decide) rfl rfl rfl rfl rfl rfl rfl (by decide) (by kernel_rfl) field_11 (load1_26 _ _ _ _ _ _ (HA2.out.get 15 _ rfl)) (load1_26 _ _ _ _ _ _ (HB2.out.get 15 _ rfl)) ent_eqInts (K1.out w2 HW2.out) ?_
  intro a12 w3 F12 hx3
  have HW3 := Lib.hid (HW2.out.trans (hx3.mono HW2.out.size))
  have HA3 := Lib.hid (HA2.out.below hx3 HLa2.out)
  have HB3 := Lib.hid (HB2.out.below hx3 HLb2.out)
  have HLa3 := Lib.hid (Nat.lt_of_lt_of_le HLa2.out hx3.size)
  have HLb3 := Lib.hid (Nat.lt_of_lt_of_le HLb2.out hx3.size)
  clear hx3
  refine wpList_link F12 (by decide) rfl rfl rfl rfl rfl rfl rfl (by decide) (by kernel_rfl) field_12 (load1_b _ _ _ _ (HA3.out.get 16 _ rfl)) (load1_b _ _ _ _ (HB3.out.get 16 _ rfl)) (eql_b _ _ _ _ _) ?_
  intro a13 F13
  refine wpList_link F13 (by decide) rfl rfl rfl rfl rfl rfl rfl (by decide) (by kernel_rfl) field_13 (load1_i _ _ _ _ (HA3.out.get 17 _ rfl)) (load1_i _ _ _ _ (HB3.out.get 17 _ rfl)) (eql_i _ _ _ _ _) ?_
  intro a14 F14
  refine wpList_link F14 (by decide) rfl rfl rfl rfl rfl rfl rfl (by decide) (by kernel_rfl) field_14 (load1_b _ _ _ _ (HA3.out.get 18 _ rfl)) (load1_b _ _ _ _ (HB3.out.get 18 _ rfl)) (eql_b _ _ _ _ _) ?_
  intro a15 F15
  refine wpList_link F15 (by decide) rfl rfl rfl rfl rfl rfl rfl (by decide) (by kernel_rfl) field_15 (load1_s _ _ _ _ (HA3.out.get 19 _ rfl)) (load1_s _ _ _ _ (HB3.out.get 19 _ rfl)) (eql_s _ _ _ _ _) ?_
  intro a16 F16
  refine wpList_link F16 (by decide) rfl rfl rfl rfl rfl rfl rfl (by decide) (by kernel_rfl) field_16 (load1_i _ _ _ _ (HA3.out.get 20 _ rfl)) (load1_i _ _ _ _ (HB3.out.get 20 _ rfl)) (eql_i _ _ _ _ _) ?_
  intro a17 F17
  refine wpList_link F17 (by decide) rfl rfl rfl rfl rfl rfl rfl (by decide) (by kernel_rfl) field_17 (load1_s _ _ _ _ (HA3.out.get 21 _ rfl)) (load1_s _ _ _ _ (HB3.out.get 21 _ rfl)) (eql_s _ _ _ _ _) ?_
  intro a18 F18
  refine wpList_linkC F18 (by decide) rfl rfl rfl rfl rfl rfl rfl (by decide) (by kernel_rfl) field_18 (load1_27 _ _ _ _ _ _ (HA3.out.get 22 _ rfl)) (load1_27 _ _ _ _ _ _ (HB3.out.get 22 _ rfl)) ent_eqWishes (K2.out w3 HW3.out) ?_
  intro a19 w4 F19 hx4
  have HW4 := Lib.hid (HW3.out.trans (hx4.mono HW3.out.size))
  have HA4 := Lib.hid (HA3.out.below hx4 HLa3.out)
  have HB4 := Lib.hid (HB3.out.below hx4 HLb3.out)
  have HLa4 := Lib.hid (Nat.lt_of_lt_of_le HLa3.out hx4.size)
  have HLb4 := Lib.hid (Nat.lt_of_lt_of_le HLb3.out hx4.size)
  clear hx4
  refine wpList_linkC F19 (by decide) rfl rfl rfl rfl rfl rfl rfl (by decide) (by kernel_rfl) field_19 (load1_28 _ _ _ _ _ _ (HA4.out.get 23 _ rfl)) (load1_28 _ _ _ _ _ _ (HB4.out.get 23 _ rfl)) ent_eqStrs (K3.out w4 HW4.out) ?_
  intro a20 w5 F20 hx5
  have HW5 := Lib.hid (HW4.out.trans (hx5.mono HW4.out.size))
  have HA5 := Lib.hid (HA4.out.below hx5 HLa4.out)
  have HB5 := Lib.hid (HB4.out.below hx5 HLb4.out)
  have HLa5 := Lib.hid (Nat.lt_of_lt_of_le HLa4.out hx5.size)
  have HLb5 := Lib.hid (Nat.lt_of_lt_of_le HLb4.out hx5.size)
  clear hx5
  refine wpList_go (wanted_none rfl _) 4 rfl (a20.eval (.tmp 142)) w5 rfl ?_
  have hr : (a20.put (some 4) (a20.eval (.tmp 142))).eval (.tmp 4) = .bool (Mq.same a b) := by
    rw [Act.eval_put_same _ _ _ (by rw [F20.sz]; decide), F20.tk]
    simp only [Mq.same, Bool.and_assoc]
  have hdf : (a20.put (some 4) (a20.eval (.tmp 142))).defers = [] := by rw [Act.defers_put', F20.df]
  generalize a20.put (some 4) (a20.eval (.tmp 142)) = az at hr hdf
  refine wpList_nil ?_
  refine hK _ _ (wp_ret ?_)
  refine bodyPost_ret (results_tmp rfl _ _ _) hdf ⟨?_, HW5.out⟩
  exact congrArg Ending.returned hr

end Go.Proofs.YtkcdkjpmbjcmdaaDoor

/-
  Wills: pack.MayWill and the page's Will, on or off.
-/
namespace Go.Proofs.YtkcdkjpmbjcmdaaDoor
open Go.RowKit

def willB2 (on : Bool) (t b : ByteArray) (q : Int) (r : Bool) : Bool := if on then textOk t 1 64 && (decide ((b.size : Int) ≤ 128) && inRB q 0 2) else emp t && (emp b && (q == 0 && !r))
theorem willOk_eq (m : Mq) : willOk m = willB2 m.won m.wt m.wp m.wq m.wr := rfl
theorem emp_true {s : ByteArray} (h : s.toList = []) : emp s = true := by
  rw [Lib.toList_data] at h
  have : s.size = 0 := by rw [← sb_length]; show s.data.toList.length = 0; rw [h]; rfl
  unfold emp
  rw [this]
  rfl
theorem emp_false {s : ByteArray} (h : ¬ s.toList = []) : emp s = false := by
  rw [Lib.toList_data] at h
  unfold emp
  rw [beq_eq_false_iff_ne]
  intro e
  rw [← sb_length] at e
  exact h (List.eq_nil_of_length_eq_zero e)

set_option maxRecDepth 100000 in
set_option maxHeartbeats 1600000 in
theorem packWillOff (t b : ByteArray) (q : Int) (r : Bool) (w : World) :
    Calls Tryd.prog 105 #[.agg #[.bool false, .string t, .string b, .int .i64 q, .bool r]] w fun e w' => e = .returned (.bool (willB2 false t b q r)) ∧ Below w.heap.size w w' := by
  obtain ⟨X, hX⟩ : ∃ X, willB2 false t b q r = X := ⟨_, rfl⟩
  rw [hX]
  have HX := Lib.hid hX
  clear hX
  have HB := Lib.hid (fun r f => (Below.refl w.heap.size w).alloc (Nat.le_refl _) (.cells r f))
  by_cases h1 : t.toList = []
  · have E1 := Lib.hid (emp_true h1)
    by_cases h2 : b.toList = []
    · have E2 := Lib.hid (emp_true h2)
      by_cases h3 : q = 0
      · subst h3
        cases r
        all_goals
          go_enter Tryd.func105, Tryd.ntmps105
          go_wp2
          go_ret
          exact ⟨by rw [← HX.out]; unfold willB2; rw [E1.out, E2.out]; rfl, HB.out _ _⟩
      · have h3' : (q == 0) = false := by rw [beq_eq_false_iff_ne]; exact h3
        have E3 := Lib.hid h3'
        go_enter Tryd.func105, Tryd.ntmps105
        go_wp2
        go_ret
        exact ⟨by rw [← HX.out]; unfold willB2; rw [E1.out, E2.out, E3.out]; rfl, HB.out _ _⟩
    · have E2 := Lib.hid (emp_false h2)
      go_enter Tryd.func105, Tryd.ntmps105
      go_wp2
      go_ret
      exact ⟨by rw [← HX.out]; unfold willB2; rw [E1.out, E2.out]; rfl, HB.out _ _⟩
  · have E1 := Lib.hid (emp_false h1)
    go_enter Tryd.func105, Tryd.ntmps105
    go_wp2
    go_ret
    exact ⟨by rw [← HX.out]; unfold willB2; rw [E1.out]; rfl, HB.out _ _⟩

set_option maxRecDepth 100000 in
set_option maxHeartbeats 1600000 in
theorem packWillOn (t b : ByteArray) (q : Int) (r : Bool) (ht : t.size ≤ 140737488351232) (w : World) (hT : Wd w) :
    Calls Tryd.prog 105 #[.agg #[.bool true, .string t, .string b, .int .i64 q, .bool r]] w fun e w' => e = .returned (.bool (willB2 true t b q r)) ∧ Below w.heap.size w w' := by
  have hb0 := Lib.hid (balloc w (.cells #[.bool true, .string t, .string b, .int .i64 q, .bool r] 25))
  have HT := Lib.hid (packTextV t ht 1 64 _ (hT.below hb0.out))
  clear hT
  have hlt : w.heap.size < (w.alloc (.cells #[.bool true, .string t, .string b, .int .i64 q, .bool r] 25)).heap.size := lt_alloc _ _
  have HN := Lib.hid (fun w1 => packWithin q 0 2 w1)
  generalize hX : textOk t 1 64 = X at HT
  generalize hY : inRB q 0 2 = Y at HN
  have HP := Lib.hid (show willB2 true t b q r = (X && (decide ((b.size : Int) ≤ 128) && Y)) by unfold willB2; rw [hX, hY]; rfl)
  generalize willB2 true t b q r = Z at *
  clear hX hY
  go_enter Tryd.func105, Tryd.ntmps105
  go_wp2_with fail
  (with_reducible refine HT.out.mono ?_)
  rintro _ w1 ⟨rfl, hb1⟩
  have HB1 := Lib.hid (hb0.out.trans (hb1.mono (Nat.le_of_lt hlt)))
  have c2 : w1.cell? ⟨w.heap.size, 2, none⟩ = some (.string b) := by rw [cellB hb1 hlt]; simp
  have c3 : w1.cell? ⟨w.heap.size, 3, none⟩ = some (.int .i64 q) := by rw [cellB hb1 hlt]; simp
  clear HT hb1 hb0
  by_cases h1 : (b.size : Int) ≤ 128
  · rw [decide_eq_true h1] at HP
    cases X
    all_goals
      go_wp2_with (go_at_call 88; (with_reducible refine (HN.out w1).mono ?_); rintro _ w2 ⟨rfl, rfl⟩)
      go_ret
      exact ⟨by rw [HP.out]; rfl, HB1.out⟩
  · rw [decide_eq_false h1] at HP
    cases X
    all_goals
      go_wp2_with (go_at_call 88; (with_reducible refine (HN.out w1).mono ?_); rintro _ w2 ⟨rfl, rfl⟩)
      go_ret
      exact ⟨by rw [HP.out]; rfl, HB1.out⟩
theorem packWillV (on : Bool) (t b : ByteArray) (q : Int) (r : Bool) (ht : t.size ≤ 140737488351232) (w : World) (hT : Wd w) :
    Calls Tryd.prog 105 #[.agg #[.bool on, .string t, .string b, .int .i64 q, .bool r]] w fun e w' => e = .returned (.bool (willB2 on t b q r)) ∧ Below w.heap.size w w' := by
  cases on
  · exact packWillOff t b q r w
  · exact packWillOn t b q r ht w hT

set_option maxRecDepth 100000 in
set_option maxHeartbeats 1600000 in
theorem refWillOff (t b : ByteArray) (q : Int) (r : Bool) (w : World) :
    Calls Tryd.prog 52 #[.agg #[.bool false, .string t, .string b, .int .i64 q, .bool r]] w fun e w' => e = .returned (.bool (willB2 false t b q r)) ∧ Below w.heap.size w w' := by
  obtain ⟨X, hX⟩ : ∃ X, willB2 false t b q r = X := ⟨_, rfl⟩
  rw [hX]
  have HX := Lib.hid hX
  clear hX
  have HB := Lib.hid (fun r f => (Below.refl w.heap.size w).alloc (Nat.le_refl _) (.cells r f))
  by_cases h1 : t.toList = []
  · have E1 := Lib.hid (emp_true h1)
    by_cases h2 : b.toList = []
    · have E2 := Lib.hid (emp_true h2)
      by_cases h3 : q = 0
      · subst h3
        cases r
        all_goals
          go_enter Tryd.func52, Tryd.ntmps52
          go_wp2
          go_ret
          exact ⟨by rw [← HX.out]; unfold willB2; rw [E1.out, E2.out]; rfl, HB.out _ _⟩
      · have h3' : (q == 0) = false := by rw [beq_eq_false_iff_ne]; exact h3
        have E3 := Lib.hid h3'
        go_enter Tryd.func52, Tryd.ntmps52
        go_wp2
        go_ret
        exact ⟨by rw [← HX.out]; unfold willB2; rw [E1.out, E2.out, E3.out]; rfl, HB.out _ _⟩
    · have E2 := Lib.hid (emp_false h2)
      go_enter Tryd.func52, Tryd.ntmps52
      go_wp2
      go_ret
      exact ⟨by rw [← HX.out]; unfold willB2; rw [E1.out, E2.out]; rfl, HB.out _ _⟩
  · have E1 := Lib.hid (emp_false h1)
    go_enter Tryd.func52, Tryd.ntmps52
    go_wp2
    go_ret
    exact ⟨by rw [← HX.out]; unfold willB2; rw [E1.out]; rfl, HB.out _ _⟩

set_option maxRecDepth 100000 in
set_option maxHeartbeats 1600000 in
theorem refWillOn (t b : ByteArray) (q : Int) (r : Bool) (ht : t.size ≤ 140737488351232) (w : World) (hT : Wd w) :
    Calls Tryd.prog 52 #[.agg #[.bool true, .string t, .string b, .int .i64 q, .bool r]] w fun e w' => e = .returned (.bool (willB2 true t b q r)) ∧ Below w.heap.size w w' := by
  have hb0 := Lib.hid (balloc w (.cells #[.bool true, .string t, .string b, .int .i64 q, .bool r] 25))
  have HT := Lib.hid (refTextV t ht 1 64 _ (hT.below hb0.out))
  clear hT
  have hlt : w.heap.size < (w.alloc (.cells #[.bool true, .string t, .string b, .int .i64 q, .bool r] 25)).heap.size := lt_alloc _ _
  have HN := Lib.hid (fun w1 => refNumB q 2 w1)
  generalize hX : textOk t 1 64 = X at HT
  generalize hY : inRB q 0 2 = Y at HN
  have HP := Lib.hid (show willB2 true t b q r = (X && (decide ((b.size : Int) ≤ 128) && Y)) by unfold willB2; rw [hX, hY]; rfl)
  generalize willB2 true t b q r = Z at *
  clear hX hY
  go_enter Tryd.func52, Tryd.ntmps52
  go_wp2_with fail
  (with_reducible refine HT.out.mono ?_)
  rintro _ w1 ⟨rfl, hb1⟩
  have HB1 := Lib.hid (hb0.out.trans (hb1.mono (Nat.le_of_lt hlt)))
  have c2 : w1.cell? ⟨w.heap.size, 2, none⟩ = some (.string b) := by rw [cellB hb1 hlt]; simp
  have c3 : w1.cell? ⟨w.heap.size, 3, none⟩ = some (.int .i64 q) := by rw [cellB hb1 hlt]; simp
  clear HT hb1 hb0
  by_cases h1 : (b.size : Int) ≤ 128
  · rw [decide_eq_true h1] at HP
    cases X
    all_goals
      go_wp2_with (go_at_call 51; (with_reducible refine (HN.out w1).mono ?_); rintro _ w2 ⟨rfl, rfl⟩)
      go_ret
      exact ⟨by rw [HP.out]; rfl, HB1.out⟩
  · rw [decide_eq_false h1] at HP
    cases X
    all_goals
      go_wp2_with (go_at_call 51; (with_reducible refine (HN.out w1).mono ?_); rintro _ w2 ⟨rfl, rfl⟩)
      go_ret
      exact ⟨by rw [HP.out]; rfl, HB1.out⟩
theorem refWillV (on : Bool) (t b : ByteArray) (q : Int) (r : Bool) (ht : t.size ≤ 140737488351232) (w : World) (hT : Wd w) :
    Calls Tryd.prog 52 #[.agg #[.bool on, .string t, .string b, .int .i64 q, .bool r]] w fun e w' => e = .returned (.bool (willB2 on t b q r)) ∧ Below w.heap.size w w' := by
  cases on
  · exact refWillOff t b q r w
  · exact refWillOn t b q r ht w hT

end Go.Proofs.YtkcdkjpmbjcmdaaDoor

/-
  pack.connect, pack.publish: whether what the kind names may be.
-/
namespace Go.Proofs.YtkcdkjpmbjcmdaaDoor
open Go.RowKit

set_option maxRecDepth 100000 in
set_option maxHeartbeats 1600000 in
theorem packConnectV (m : Mq) (vc vw vf : Value) (h1 : Fits m.client) (h2 : Fits m.wt) (h3 : Fits m.user) (w : World) (hT : Wd w) :
    Calls Tryd.prog 89 #[.agg (mqCells m vc vw vf).toArray] w fun e w' => e = .returned (.bool (connectOk m)) ∧ Below w.heap.size w w' := by
  have HP := Lib.hid (show connectOk m = (textOk m.client 0 23 && (inRB m.keep 0 65535 && (willOk m && (textOk m.user 0 64 && (decide ((m.pass.size : Int) ≤ 64) && ((m.hu || (emp m.user && !m.hp)) && (m.hp || emp m.pass))))))) from rfl)
  have K1 := Lib.hid (fun w1 hb => packTextV m.client h1 0 23 w1 (hT.below hb))
  have K2 := Lib.hid (fun w1 => packWithin m.keep 0 65535 w1)
  have K3 := Lib.hid (fun w1 hb => packWillV m.won m.wt m.wp m.wq m.wr h2 w1 (hT.below hb))
  have K4 := Lib.hid (fun w1 hb => packTextV m.user h3 0 64 w1 (hT.below hb))
  rw [← willOk_eq] at K3
  clear hT h1 h2 h3
  generalize textOk m.client 0 23 = B1 at K1 HP
  generalize inRB m.keep 0 65535 = B2 at K2 HP
  generalize willOk m = B3 at K3 HP
  generalize textOk m.user 0 64 = B4 at K4 HP
  generalize connectOk m = Z at *
  cases B1 with
  | false =>
    go_enter Tryd.func89, Tryd.ntmps89
    go_upto_region 1 with (refine wpList_box_cells rfl 30 _ rfl (mqCells m vc vw vf) (by exact rfl) w.heap.size rfl ?_; intro w1 hb1 hs1 hC1; have HC1 := Lib.hid hC1; have HB1 := Lib.hid hb1; have HL1 := Lib.hid (show w.heap.size < w1.heap.size by omega); clear hs1 hC1 hb1; have c1_1 := HC1.out.get 1 _ rfl)
    go_wp2_with (first
      | (go_at_call 104; (with_reducible refine (K1.out w1 HB1.out).mono ?_); rintro _ w2 ⟨rfl, hb2⟩; have HC2 := Lib.hid (HC1.out.below hb2 HL1.out); have HB2 := Lib.hid (HB1.out.trans (hb2.mono HB1.out.size)); have HL2 := Lib.hid (Nat.lt_of_lt_of_le HL1.out hb2.size); clear hb2; have c2_3 := HC2.out.get 3 _ rfl; have c2_4 := HC2.out.get 4 _ rfl; have c2_5 := HC2.out.get 5 _ rfl; have c2_6 := HC2.out.get 6 _ rfl; have c2_7 := HC2.out.get 7 _ rfl; have c2_8 := HC2.out.get 8 _ rfl)
      | (go_at_call 88; (with_reducible refine (K2.out _).mono ?_); rintro _ w9 ⟨rfl, rfl⟩)
      | (go_at_call 105; (with_reducible refine (K3.out w2 HB2.out).mono ?_); rintro _ w3 ⟨rfl, hb3⟩; have HC3 := Lib.hid (HC2.out.below hb3 HL2.out); have HB3 := Lib.hid (HB2.out.trans (hb3.mono HB2.out.size)); have HL3 := Lib.hid (Nat.lt_of_lt_of_le HL2.out hb3.size); clear hb3; have c3_9 := HC3.out.get 9 _ rfl)
      | (go_at_call 104; (with_reducible refine (K4.out w3 HB3.out).mono ?_); rintro _ w4 ⟨rfl, hb4⟩; have HC4 := Lib.hid (HC3.out.below hb4 HL3.out); have HB4 := Lib.hid (HB3.out.trans (hb4.mono HB3.out.size)); have HL4 := Lib.hid (Nat.lt_of_lt_of_le HL3.out hb4.size); clear hb4; have c4_9 := HC4.out.get 9 _ rfl; have c4_10 := HC4.out.get 10 _ rfl; have c4_11 := HC4.out.get 11 _ rfl; have c4_12 := HC4.out.get 12 _ rfl))
    go_ret
    exact ⟨by rw [HP.out]; rfl, HB2.out⟩
  | true =>
    cases B2 with
    | false =>
      go_enter Tryd.func89, Tryd.ntmps89
      go_upto_region 1 with (refine wpList_box_cells rfl 30 _ rfl (mqCells m vc vw vf) (by exact rfl) w.heap.size rfl ?_; intro w1 hb1 hs1 hC1; have HC1 := Lib.hid hC1; have HB1 := Lib.hid hb1; have HL1 := Lib.hid (show w.heap.size < w1.heap.size by omega); clear hs1 hC1 hb1; have c1_1 := HC1.out.get 1 _ rfl)
      go_wp2_with (first
        | (go_at_call 104; (with_reducible refine (K1.out w1 HB1.out).mono ?_); rintro _ w2 ⟨rfl, hb2⟩; have HC2 := Lib.hid (HC1.out.below hb2 HL1.out); have HB2 := Lib.hid (HB1.out.trans (hb2.mono HB1.out.size)); have HL2 := Lib.hid (Nat.lt_of_lt_of_le HL1.out hb2.size); clear hb2; have c2_3 := HC2.out.get 3 _ rfl; have c2_4 := HC2.out.get 4 _ rfl; have c2_5 := HC2.out.get 5 _ rfl; have c2_6 := HC2.out.get 6 _ rfl; have c2_7 := HC2.out.get 7 _ rfl; have c2_8 := HC2.out.get 8 _ rfl)
        | (go_at_call 88; (with_reducible refine (K2.out _).mono ?_); rintro _ w9 ⟨rfl, rfl⟩)
        | (go_at_call 105; (with_reducible refine (K3.out w2 HB2.out).mono ?_); rintro _ w3 ⟨rfl, hb3⟩; have HC3 := Lib.hid (HC2.out.below hb3 HL2.out); have HB3 := Lib.hid (HB2.out.trans (hb3.mono HB2.out.size)); have HL3 := Lib.hid (Nat.lt_of_lt_of_le HL2.out hb3.size); clear hb3; have c3_9 := HC3.out.get 9 _ rfl)
        | (go_at_call 104; (with_reducible refine (K4.out w3 HB3.out).mono ?_); rintro _ w4 ⟨rfl, hb4⟩; have HC4 := Lib.hid (HC3.out.below hb4 HL3.out); have HB4 := Lib.hid (HB3.out.trans (hb4.mono HB3.out.size)); have HL4 := Lib.hid (Nat.lt_of_lt_of_le HL3.out hb4.size); clear hb4; have c4_9 := HC4.out.get 9 _ rfl; have c4_10 := HC4.out.get 10 _ rfl; have c4_11 := HC4.out.get 11 _ rfl; have c4_12 := HC4.out.get 12 _ rfl))
      go_ret
      exact ⟨by rw [HP.out]; rfl, HB2.out⟩
    | true =>
      cases B3 with
      | false =>
        go_enter Tryd.func89, Tryd.ntmps89
        go_upto_region 1 with (refine wpList_box_cells rfl 30 _ rfl (mqCells m vc vw vf) (by exact rfl) w.heap.size rfl ?_; intro w1 hb1 hs1 hC1; have HC1 := Lib.hid hC1; have HB1 := Lib.hid hb1; have HL1 := Lib.hid (show w.heap.size < w1.heap.size by omega); clear hs1 hC1 hb1; have c1_1 := HC1.out.get 1 _ rfl)
        go_wp2_with (first
          | (go_at_call 104; (with_reducible refine (K1.out w1 HB1.out).mono ?_); rintro _ w2 ⟨rfl, hb2⟩; have HC2 := Lib.hid (HC1.out.below hb2 HL1.out); have HB2 := Lib.hid (HB1.out.trans (hb2.mono HB1.out.size)); have HL2 := Lib.hid (Nat.lt_of_lt_of_le HL1.out hb2.size); clear hb2; have c2_3 := HC2.out.get 3 _ rfl; have c2_4 := HC2.out.get 4 _ rfl; have c2_5 := HC2.out.get 5 _ rfl; have c2_6 := HC2.out.get 6 _ rfl; have c2_7 := HC2.out.get 7 _ rfl; have c2_8 := HC2.out.get 8 _ rfl)
          | (go_at_call 88; (with_reducible refine (K2.out _).mono ?_); rintro _ w9 ⟨rfl, rfl⟩)
          | (go_at_call 105; (with_reducible refine (K3.out w2 HB2.out).mono ?_); rintro _ w3 ⟨rfl, hb3⟩; have HC3 := Lib.hid (HC2.out.below hb3 HL2.out); have HB3 := Lib.hid (HB2.out.trans (hb3.mono HB2.out.size)); have HL3 := Lib.hid (Nat.lt_of_lt_of_le HL2.out hb3.size); clear hb3; have c3_9 := HC3.out.get 9 _ rfl)
          | (go_at_call 104; (with_reducible refine (K4.out w3 HB3.out).mono ?_); rintro _ w4 ⟨rfl, hb4⟩; have HC4 := Lib.hid (HC3.out.below hb4 HL3.out); have HB4 := Lib.hid (HB3.out.trans (hb4.mono HB3.out.size)); have HL4 := Lib.hid (Nat.lt_of_lt_of_le HL3.out hb4.size); clear hb4; have c4_9 := HC4.out.get 9 _ rfl; have c4_10 := HC4.out.get 10 _ rfl; have c4_11 := HC4.out.get 11 _ rfl; have c4_12 := HC4.out.get 12 _ rfl))
        go_ret
        exact ⟨by rw [HP.out]; rfl, HB3.out⟩
      | true =>
        cases B4 with
        | false =>
          go_enter Tryd.func89, Tryd.ntmps89
          go_upto_region 1 with (refine wpList_box_cells rfl 30 _ rfl (mqCells m vc vw vf) (by exact rfl) w.heap.size rfl ?_; intro w1 hb1 hs1 hC1; have HC1 := Lib.hid hC1; have HB1 := Lib.hid hb1; have HL1 := Lib.hid (show w.heap.size < w1.heap.size by omega); clear hs1 hC1 hb1; have c1_1 := HC1.out.get 1 _ rfl)
          go_wp2_with (first
            | (go_at_call 104; (with_reducible refine (K1.out w1 HB1.out).mono ?_); rintro _ w2 ⟨rfl, hb2⟩; have HC2 := Lib.hid (HC1.out.below hb2 HL1.out); have HB2 := Lib.hid (HB1.out.trans (hb2.mono HB1.out.size)); have HL2 := Lib.hid (Nat.lt_of_lt_of_le HL1.out hb2.size); clear hb2; have c2_3 := HC2.out.get 3 _ rfl; have c2_4 := HC2.out.get 4 _ rfl; have c2_5 := HC2.out.get 5 _ rfl; have c2_6 := HC2.out.get 6 _ rfl; have c2_7 := HC2.out.get 7 _ rfl; have c2_8 := HC2.out.get 8 _ rfl)
            | (go_at_call 88; (with_reducible refine (K2.out _).mono ?_); rintro _ w9 ⟨rfl, rfl⟩)
            | (go_at_call 105; (with_reducible refine (K3.out w2 HB2.out).mono ?_); rintro _ w3 ⟨rfl, hb3⟩; have HC3 := Lib.hid (HC2.out.below hb3 HL2.out); have HB3 := Lib.hid (HB2.out.trans (hb3.mono HB2.out.size)); have HL3 := Lib.hid (Nat.lt_of_lt_of_le HL2.out hb3.size); clear hb3; have c3_9 := HC3.out.get 9 _ rfl)
            | (go_at_call 104; (with_reducible refine (K4.out w3 HB3.out).mono ?_); rintro _ w4 ⟨rfl, hb4⟩; have HC4 := Lib.hid (HC3.out.below hb4 HL3.out); have HB4 := Lib.hid (HB3.out.trans (hb4.mono HB3.out.size)); have HL4 := Lib.hid (Nat.lt_of_lt_of_le HL3.out hb4.size); clear hb4; have c4_9 := HC4.out.get 9 _ rfl; have c4_10 := HC4.out.get 10 _ rfl; have c4_11 := HC4.out.get 11 _ rfl; have c4_12 := HC4.out.get 12 _ rfl))
          go_ret
          exact ⟨by rw [HP.out]; rfl, HB4.out⟩
        | true =>
          by_cases h5 : (m.pass.size : Int) ≤ 64
          · rw [decide_eq_true h5] at HP
            cases h6 : m.hu with
            | true =>
              rw [h6] at HP
              cases h7 : m.hp with
              | true =>
                rw [h7] at HP
                have HP : Hid (Z = true) := by unfold Hid; have := HP.out; simpa using this
                go_enter Tryd.func89, Tryd.ntmps89
                go_upto_region 1 with (refine wpList_box_cells rfl 30 _ rfl (mqCells m vc vw vf) (by exact rfl) w.heap.size rfl ?_; intro w1 hb1 hs1 hC1; have HC1 := Lib.hid hC1; have HB1 := Lib.hid hb1; have HL1 := Lib.hid (show w.heap.size < w1.heap.size by omega); clear hs1 hC1 hb1; have c1_1 := HC1.out.get 1 _ rfl)
                go_wp2_with (first
                  | (go_at_call 104; (with_reducible refine (K1.out w1 HB1.out).mono ?_); rintro _ w2 ⟨rfl, hb2⟩; have HC2 := Lib.hid (HC1.out.below hb2 HL1.out); have HB2 := Lib.hid (HB1.out.trans (hb2.mono HB1.out.size)); have HL2 := Lib.hid (Nat.lt_of_lt_of_le HL1.out hb2.size); clear hb2; have c2_3 := HC2.out.get 3 _ rfl; have c2_4 := HC2.out.get 4 _ rfl; have c2_5 := HC2.out.get 5 _ rfl; have c2_6 := HC2.out.get 6 _ rfl; have c2_7 := HC2.out.get 7 _ rfl; have c2_8 := HC2.out.get 8 _ rfl)
                  | (go_at_call 88; (with_reducible refine (K2.out _).mono ?_); rintro _ w9 ⟨rfl, rfl⟩)
                  | (go_at_call 105; (with_reducible refine (K3.out w2 HB2.out).mono ?_); rintro _ w3 ⟨rfl, hb3⟩; have HC3 := Lib.hid (HC2.out.below hb3 HL2.out); have HB3 := Lib.hid (HB2.out.trans (hb3.mono HB2.out.size)); have HL3 := Lib.hid (Nat.lt_of_lt_of_le HL2.out hb3.size); clear hb3; have c3_9 := HC3.out.get 9 _ rfl)
                  | (go_at_call 104; (with_reducible refine (K4.out w3 HB3.out).mono ?_); rintro _ w4 ⟨rfl, hb4⟩; have HC4 := Lib.hid (HC3.out.below hb4 HL3.out); have HB4 := Lib.hid (HB3.out.trans (hb4.mono HB3.out.size)); have HL4 := Lib.hid (Nat.lt_of_lt_of_le HL3.out hb4.size); clear hb4; have c4_9 := HC4.out.get 9 _ rfl; have c4_10 := HC4.out.get 10 _ rfl; have c4_11 := HC4.out.get 11 _ rfl; have c4_12 := HC4.out.get 12 _ rfl))
                go_ret
                exact ⟨by rw [HP.out]; rfl, HB4.out⟩
              | false =>
                rw [h7] at HP
                have HP : Hid (Z = emp m.pass) := by unfold Hid; have := HP.out; simpa using this
                by_cases h8 : m.pass.toList = []
                · rw [emp_true h8] at HP
                  go_enter Tryd.func89, Tryd.ntmps89
                  go_upto_region 1 with (refine wpList_box_cells rfl 30 _ rfl (mqCells m vc vw vf) (by exact rfl) w.heap.size rfl ?_; intro w1 hb1 hs1 hC1; have HC1 := Lib.hid hC1; have HB1 := Lib.hid hb1; have HL1 := Lib.hid (show w.heap.size < w1.heap.size by omega); clear hs1 hC1 hb1; have c1_1 := HC1.out.get 1 _ rfl)
                  go_wp2_with (first
                    | (go_at_call 104; (with_reducible refine (K1.out w1 HB1.out).mono ?_); rintro _ w2 ⟨rfl, hb2⟩; have HC2 := Lib.hid (HC1.out.below hb2 HL1.out); have HB2 := Lib.hid (HB1.out.trans (hb2.mono HB1.out.size)); have HL2 := Lib.hid (Nat.lt_of_lt_of_le HL1.out hb2.size); clear hb2; have c2_3 := HC2.out.get 3 _ rfl; have c2_4 := HC2.out.get 4 _ rfl; have c2_5 := HC2.out.get 5 _ rfl; have c2_6 := HC2.out.get 6 _ rfl; have c2_7 := HC2.out.get 7 _ rfl; have c2_8 := HC2.out.get 8 _ rfl)
                    | (go_at_call 88; (with_reducible refine (K2.out _).mono ?_); rintro _ w9 ⟨rfl, rfl⟩)
                    | (go_at_call 105; (with_reducible refine (K3.out w2 HB2.out).mono ?_); rintro _ w3 ⟨rfl, hb3⟩; have HC3 := Lib.hid (HC2.out.below hb3 HL2.out); have HB3 := Lib.hid (HB2.out.trans (hb3.mono HB2.out.size)); have HL3 := Lib.hid (Nat.lt_of_lt_of_le HL2.out hb3.size); clear hb3; have c3_9 := HC3.out.get 9 _ rfl)
                    | (go_at_call 104; (with_reducible refine (K4.out w3 HB3.out).mono ?_); rintro _ w4 ⟨rfl, hb4⟩; have HC4 := Lib.hid (HC3.out.below hb4 HL3.out); have HB4 := Lib.hid (HB3.out.trans (hb4.mono HB3.out.size)); have HL4 := Lib.hid (Nat.lt_of_lt_of_le HL3.out hb4.size); clear hb4; have c4_9 := HC4.out.get 9 _ rfl; have c4_10 := HC4.out.get 10 _ rfl; have c4_11 := HC4.out.get 11 _ rfl; have c4_12 := HC4.out.get 12 _ rfl))
                  go_ret
                  exact ⟨by rw [HP.out]; rfl, HB4.out⟩
                · have h8' : m.pass.toList.isEmpty = false := by simpa using h8
                  rw [emp_false h8] at HP
                  go_enter Tryd.func89, Tryd.ntmps89
                  go_upto_region 1 with (refine wpList_box_cells rfl 30 _ rfl (mqCells m vc vw vf) (by exact rfl) w.heap.size rfl ?_; intro w1 hb1 hs1 hC1; have HC1 := Lib.hid hC1; have HB1 := Lib.hid hb1; have HL1 := Lib.hid (show w.heap.size < w1.heap.size by omega); clear hs1 hC1 hb1; have c1_1 := HC1.out.get 1 _ rfl)
                  go_wp2_with (first
                    | (go_at_call 104; (with_reducible refine (K1.out w1 HB1.out).mono ?_); rintro _ w2 ⟨rfl, hb2⟩; have HC2 := Lib.hid (HC1.out.below hb2 HL1.out); have HB2 := Lib.hid (HB1.out.trans (hb2.mono HB1.out.size)); have HL2 := Lib.hid (Nat.lt_of_lt_of_le HL1.out hb2.size); clear hb2; have c2_3 := HC2.out.get 3 _ rfl; have c2_4 := HC2.out.get 4 _ rfl; have c2_5 := HC2.out.get 5 _ rfl; have c2_6 := HC2.out.get 6 _ rfl; have c2_7 := HC2.out.get 7 _ rfl; have c2_8 := HC2.out.get 8 _ rfl)
                    | (go_at_call 88; (with_reducible refine (K2.out _).mono ?_); rintro _ w9 ⟨rfl, rfl⟩)
                    | (go_at_call 105; (with_reducible refine (K3.out w2 HB2.out).mono ?_); rintro _ w3 ⟨rfl, hb3⟩; have HC3 := Lib.hid (HC2.out.below hb3 HL2.out); have HB3 := Lib.hid (HB2.out.trans (hb3.mono HB2.out.size)); have HL3 := Lib.hid (Nat.lt_of_lt_of_le HL2.out hb3.size); clear hb3; have c3_9 := HC3.out.get 9 _ rfl)
                    | (go_at_call 104; (with_reducible refine (K4.out w3 HB3.out).mono ?_); rintro _ w4 ⟨rfl, hb4⟩; have HC4 := Lib.hid (HC3.out.below hb4 HL3.out); have HB4 := Lib.hid (HB3.out.trans (hb4.mono HB3.out.size)); have HL4 := Lib.hid (Nat.lt_of_lt_of_le HL3.out hb4.size); clear hb4; have c4_9 := HC4.out.get 9 _ rfl; have c4_10 := HC4.out.get 10 _ rfl; have c4_11 := HC4.out.get 11 _ rfl; have c4_12 := HC4.out.get 12 _ rfl))
                  go_ret
                  exact ⟨by rw [HP.out]; rfl, HB4.out⟩
            | false =>
              rw [h6] at HP
              by_cases h9 : m.user.toList = []
              · rw [emp_true h9] at HP
                cases h7 : m.hp with
                | true =>
                  rw [h7] at HP
                  go_enter Tryd.func89, Tryd.ntmps89
                  go_upto_region 1 with (refine wpList_box_cells rfl 30 _ rfl (mqCells m vc vw vf) (by exact rfl) w.heap.size rfl ?_; intro w1 hb1 hs1 hC1; have HC1 := Lib.hid hC1; have HB1 := Lib.hid hb1; have HL1 := Lib.hid (show w.heap.size < w1.heap.size by omega); clear hs1 hC1 hb1; have c1_1 := HC1.out.get 1 _ rfl)
                  go_wp2_with (first
                    | (go_at_call 104; (with_reducible refine (K1.out w1 HB1.out).mono ?_); rintro _ w2 ⟨rfl, hb2⟩; have HC2 := Lib.hid (HC1.out.below hb2 HL1.out); have HB2 := Lib.hid (HB1.out.trans (hb2.mono HB1.out.size)); have HL2 := Lib.hid (Nat.lt_of_lt_of_le HL1.out hb2.size); clear hb2; have c2_3 := HC2.out.get 3 _ rfl; have c2_4 := HC2.out.get 4 _ rfl; have c2_5 := HC2.out.get 5 _ rfl; have c2_6 := HC2.out.get 6 _ rfl; have c2_7 := HC2.out.get 7 _ rfl; have c2_8 := HC2.out.get 8 _ rfl)
                    | (go_at_call 88; (with_reducible refine (K2.out _).mono ?_); rintro _ w9 ⟨rfl, rfl⟩)
                    | (go_at_call 105; (with_reducible refine (K3.out w2 HB2.out).mono ?_); rintro _ w3 ⟨rfl, hb3⟩; have HC3 := Lib.hid (HC2.out.below hb3 HL2.out); have HB3 := Lib.hid (HB2.out.trans (hb3.mono HB2.out.size)); have HL3 := Lib.hid (Nat.lt_of_lt_of_le HL2.out hb3.size); clear hb3; have c3_9 := HC3.out.get 9 _ rfl)
                    | (go_at_call 104; (with_reducible refine (K4.out w3 HB3.out).mono ?_); rintro _ w4 ⟨rfl, hb4⟩; have HC4 := Lib.hid (HC3.out.below hb4 HL3.out); have HB4 := Lib.hid (HB3.out.trans (hb4.mono HB3.out.size)); have HL4 := Lib.hid (Nat.lt_of_lt_of_le HL3.out hb4.size); clear hb4; have c4_9 := HC4.out.get 9 _ rfl; have c4_10 := HC4.out.get 10 _ rfl; have c4_11 := HC4.out.get 11 _ rfl; have c4_12 := HC4.out.get 12 _ rfl))
                  go_ret
                  exact ⟨by rw [HP.out]; rfl, HB4.out⟩
                | false =>
                  rw [h7] at HP
                  have HP : Hid (Z = emp m.pass) := by unfold Hid; have := HP.out; simpa using this
                  by_cases h8 : m.pass.toList = []
                  · rw [emp_true h8] at HP
                    go_enter Tryd.func89, Tryd.ntmps89
                    go_upto_region 1 with (refine wpList_box_cells rfl 30 _ rfl (mqCells m vc vw vf) (by exact rfl) w.heap.size rfl ?_; intro w1 hb1 hs1 hC1; have HC1 := Lib.hid hC1; have HB1 := Lib.hid hb1; have HL1 := Lib.hid (show w.heap.size < w1.heap.size by omega); clear hs1 hC1 hb1; have c1_1 := HC1.out.get 1 _ rfl)
                    go_wp2_with (first
                      | (go_at_call 104; (with_reducible refine (K1.out w1 HB1.out).mono ?_); rintro _ w2 ⟨rfl, hb2⟩; have HC2 := Lib.hid (HC1.out.below hb2 HL1.out); have HB2 := Lib.hid (HB1.out.trans (hb2.mono HB1.out.size)); have HL2 := Lib.hid (Nat.lt_of_lt_of_le HL1.out hb2.size); clear hb2; have c2_3 := HC2.out.get 3 _ rfl; have c2_4 := HC2.out.get 4 _ rfl; have c2_5 := HC2.out.get 5 _ rfl; have c2_6 := HC2.out.get 6 _ rfl; have c2_7 := HC2.out.get 7 _ rfl; have c2_8 := HC2.out.get 8 _ rfl)
                      | (go_at_call 88; (with_reducible refine (K2.out _).mono ?_); rintro _ w9 ⟨rfl, rfl⟩)
                      | (go_at_call 105; (with_reducible refine (K3.out w2 HB2.out).mono ?_); rintro _ w3 ⟨rfl, hb3⟩; have HC3 := Lib.hid (HC2.out.below hb3 HL2.out); have HB3 := Lib.hid (HB2.out.trans (hb3.mono HB2.out.size)); have HL3 := Lib.hid (Nat.lt_of_lt_of_le HL2.out hb3.size); clear hb3; have c3_9 := HC3.out.get 9 _ rfl)
                      | (go_at_call 104; (with_reducible refine (K4.out w3 HB3.out).mono ?_); rintro _ w4 ⟨rfl, hb4⟩; have HC4 := Lib.hid (HC3.out.below hb4 HL3.out); have HB4 := Lib.hid (HB3.out.trans (hb4.mono HB3.out.size)); have HL4 := Lib.hid (Nat.lt_of_lt_of_le HL3.out hb4.size); clear hb4; have c4_9 := HC4.out.get 9 _ rfl; have c4_10 := HC4.out.get 10 _ rfl; have c4_11 := HC4.out.get 11 _ rfl; have c4_12 := HC4.out.get 12 _ rfl))
                    go_ret
                    exact ⟨by rw [HP.out]; rfl, HB4.out⟩
                  · have h8' : m.pass.toList.isEmpty = false := by simpa using h8
                    rw [emp_false h8] at HP
                    go_enter Tryd.func89, Tryd.ntmps89
                    go_upto_region 1 with (refine wpList_box_cells rfl 30 _ rfl (mqCells m vc vw vf) (by exact rfl) w.heap.size rfl ?_; intro w1 hb1 hs1 hC1; have HC1 := Lib.hid hC1; have HB1 := Lib.hid hb1; have HL1 := Lib.hid (show w.heap.size < w1.heap.size by omega); clear hs1 hC1 hb1; have c1_1 := HC1.out.get 1 _ rfl)
                    go_wp2_with (first
                      | (go_at_call 104; (with_reducible refine (K1.out w1 HB1.out).mono ?_); rintro _ w2 ⟨rfl, hb2⟩; have HC2 := Lib.hid (HC1.out.below hb2 HL1.out); have HB2 := Lib.hid (HB1.out.trans (hb2.mono HB1.out.size)); have HL2 := Lib.hid (Nat.lt_of_lt_of_le HL1.out hb2.size); clear hb2; have c2_3 := HC2.out.get 3 _ rfl; have c2_4 := HC2.out.get 4 _ rfl; have c2_5 := HC2.out.get 5 _ rfl; have c2_6 := HC2.out.get 6 _ rfl; have c2_7 := HC2.out.get 7 _ rfl; have c2_8 := HC2.out.get 8 _ rfl)
                      | (go_at_call 88; (with_reducible refine (K2.out _).mono ?_); rintro _ w9 ⟨rfl, rfl⟩)
                      | (go_at_call 105; (with_reducible refine (K3.out w2 HB2.out).mono ?_); rintro _ w3 ⟨rfl, hb3⟩; have HC3 := Lib.hid (HC2.out.below hb3 HL2.out); have HB3 := Lib.hid (HB2.out.trans (hb3.mono HB2.out.size)); have HL3 := Lib.hid (Nat.lt_of_lt_of_le HL2.out hb3.size); clear hb3; have c3_9 := HC3.out.get 9 _ rfl)
                      | (go_at_call 104; (with_reducible refine (K4.out w3 HB3.out).mono ?_); rintro _ w4 ⟨rfl, hb4⟩; have HC4 := Lib.hid (HC3.out.below hb4 HL3.out); have HB4 := Lib.hid (HB3.out.trans (hb4.mono HB3.out.size)); have HL4 := Lib.hid (Nat.lt_of_lt_of_le HL3.out hb4.size); clear hb4; have c4_9 := HC4.out.get 9 _ rfl; have c4_10 := HC4.out.get 10 _ rfl; have c4_11 := HC4.out.get 11 _ rfl; have c4_12 := HC4.out.get 12 _ rfl))
                    go_ret
                    exact ⟨by rw [HP.out]; rfl, HB4.out⟩
              · have h9' : m.user.toList.isEmpty = false := by simpa using h9
                rw [emp_false h9] at HP
                have HP : Hid (Z = false) := by unfold Hid; have := HP.out; simpa using this
                go_enter Tryd.func89, Tryd.ntmps89
                go_upto_region 1 with (refine wpList_box_cells rfl 30 _ rfl (mqCells m vc vw vf) (by exact rfl) w.heap.size rfl ?_; intro w1 hb1 hs1 hC1; have HC1 := Lib.hid hC1; have HB1 := Lib.hid hb1; have HL1 := Lib.hid (show w.heap.size < w1.heap.size by omega); clear hs1 hC1 hb1; have c1_1 := HC1.out.get 1 _ rfl)
                go_wp2_with (first
                  | (go_at_call 104; (with_reducible refine (K1.out w1 HB1.out).mono ?_); rintro _ w2 ⟨rfl, hb2⟩; have HC2 := Lib.hid (HC1.out.below hb2 HL1.out); have HB2 := Lib.hid (HB1.out.trans (hb2.mono HB1.out.size)); have HL2 := Lib.hid (Nat.lt_of_lt_of_le HL1.out hb2.size); clear hb2; have c2_3 := HC2.out.get 3 _ rfl; have c2_4 := HC2.out.get 4 _ rfl; have c2_5 := HC2.out.get 5 _ rfl; have c2_6 := HC2.out.get 6 _ rfl; have c2_7 := HC2.out.get 7 _ rfl; have c2_8 := HC2.out.get 8 _ rfl)
                  | (go_at_call 88; (with_reducible refine (K2.out _).mono ?_); rintro _ w9 ⟨rfl, rfl⟩)
                  | (go_at_call 105; (with_reducible refine (K3.out w2 HB2.out).mono ?_); rintro _ w3 ⟨rfl, hb3⟩; have HC3 := Lib.hid (HC2.out.below hb3 HL2.out); have HB3 := Lib.hid (HB2.out.trans (hb3.mono HB2.out.size)); have HL3 := Lib.hid (Nat.lt_of_lt_of_le HL2.out hb3.size); clear hb3; have c3_9 := HC3.out.get 9 _ rfl)
                  | (go_at_call 104; (with_reducible refine (K4.out w3 HB3.out).mono ?_); rintro _ w4 ⟨rfl, hb4⟩; have HC4 := Lib.hid (HC3.out.below hb4 HL3.out); have HB4 := Lib.hid (HB3.out.trans (hb4.mono HB3.out.size)); have HL4 := Lib.hid (Nat.lt_of_lt_of_le HL3.out hb4.size); clear hb4; have c4_9 := HC4.out.get 9 _ rfl; have c4_10 := HC4.out.get 10 _ rfl; have c4_11 := HC4.out.get 11 _ rfl; have c4_12 := HC4.out.get 12 _ rfl))
                go_ret
                exact ⟨by rw [HP.out]; rfl, HB4.out⟩
          · rw [decide_eq_false h5] at HP
            go_enter Tryd.func89, Tryd.ntmps89
            go_upto_region 1 with (refine wpList_box_cells rfl 30 _ rfl (mqCells m vc vw vf) (by exact rfl) w.heap.size rfl ?_; intro w1 hb1 hs1 hC1; have HC1 := Lib.hid hC1; have HB1 := Lib.hid hb1; have HL1 := Lib.hid (show w.heap.size < w1.heap.size by omega); clear hs1 hC1 hb1; have c1_1 := HC1.out.get 1 _ rfl)
            go_wp2_with (first
              | (go_at_call 104; (with_reducible refine (K1.out w1 HB1.out).mono ?_); rintro _ w2 ⟨rfl, hb2⟩; have HC2 := Lib.hid (HC1.out.below hb2 HL1.out); have HB2 := Lib.hid (HB1.out.trans (hb2.mono HB1.out.size)); have HL2 := Lib.hid (Nat.lt_of_lt_of_le HL1.out hb2.size); clear hb2; have c2_3 := HC2.out.get 3 _ rfl; have c2_4 := HC2.out.get 4 _ rfl; have c2_5 := HC2.out.get 5 _ rfl; have c2_6 := HC2.out.get 6 _ rfl; have c2_7 := HC2.out.get 7 _ rfl; have c2_8 := HC2.out.get 8 _ rfl)
              | (go_at_call 88; (with_reducible refine (K2.out _).mono ?_); rintro _ w9 ⟨rfl, rfl⟩)
              | (go_at_call 105; (with_reducible refine (K3.out w2 HB2.out).mono ?_); rintro _ w3 ⟨rfl, hb3⟩; have HC3 := Lib.hid (HC2.out.below hb3 HL2.out); have HB3 := Lib.hid (HB2.out.trans (hb3.mono HB2.out.size)); have HL3 := Lib.hid (Nat.lt_of_lt_of_le HL2.out hb3.size); clear hb3; have c3_9 := HC3.out.get 9 _ rfl)
              | (go_at_call 104; (with_reducible refine (K4.out w3 HB3.out).mono ?_); rintro _ w4 ⟨rfl, hb4⟩; have HC4 := Lib.hid (HC3.out.below hb4 HL3.out); have HB4 := Lib.hid (HB3.out.trans (hb4.mono HB3.out.size)); have HL4 := Lib.hid (Nat.lt_of_lt_of_le HL3.out hb4.size); clear hb4; have c4_9 := HC4.out.get 9 _ rfl; have c4_10 := HC4.out.get 10 _ rfl; have c4_11 := HC4.out.get 11 _ rfl; have c4_12 := HC4.out.get 12 _ rfl))
            go_ret
            exact ⟨by rw [HP.out]; rfl, HB4.out⟩

set_option maxRecDepth 100000 in
set_option maxHeartbeats 1600000 in
theorem packPublishV (m : Mq) (vc vw vf : Value) (h1 : Fits m.topic) (w : World) (hT : Wd w) :
    Calls Tryd.prog 90 #[.agg (mqCells m vc vw vf).toArray] w fun e w' => e = .returned (.bool (publishOk m)) ∧ Below w.heap.size w w' := by
  have HP := Lib.hid (show publishOk m = (topicOk m.topic && (inRB m.qos 0 2 && (((decide (0 < m.qos) && inRB m.id 1 65535) || (m.qos == 0 && (m.id == 0 && !m.dup))) && decide ((m.payload.size : Int) ≤ 128)))) from rfl)
  have K1 := Lib.hid (fun w1 hb => packTopicV m.topic h1 w1 (hT.below hb))
  have K2 := Lib.hid (fun w1 => packWithin m.qos 0 2 w1)
  have K3 := Lib.hid (fun w1 => packWithin m.id 1 65535 w1)
  clear hT h1
  generalize topicOk m.topic = B1 at K1 HP
  generalize inRB m.qos 0 2 = B2 at K2 HP
  generalize hB3 : inRB m.id 1 65535 = B3 at K3 HP
  have HB3 := Lib.hid hB3
  clear hB3
  generalize publishOk m = Z at *
  cases B1 with
  | false =>
    go_enter Tryd.func90, Tryd.ntmps90
    go_upto_region 1 with (refine wpList_box_cells rfl 30 _ rfl (mqCells m vc vw vf) (by exact rfl) w.heap.size rfl ?_; intro w1 hb1 hs1 hC1; have HC1 := Lib.hid hC1; have HB1 := Lib.hid hb1; have HL1 := Lib.hid (show w.heap.size < w1.heap.size by omega); clear hs1 hC1 hb1; have c1_19 := HC1.out.get 19 _ rfl)
    go_wp2_with (first
      | (go_at_call 106; (with_reducible refine (K1.out w1 HB1.out).mono ?_); rintro _ w2 ⟨rfl, hb2⟩; have HC2 := Lib.hid (HC1.out.below hb2 HL1.out); have HB2 := Lib.hid (HB1.out.trans (hb2.mono HB1.out.size)); have HL2 := Lib.hid (Nat.lt_of_lt_of_le HL1.out hb2.size); clear hb2; have c2_16 := HC2.out.get 16 _ rfl; have c2_17 := HC2.out.get 17 _ rfl; have c2_20 := HC2.out.get 20 _ rfl; have c2_21 := HC2.out.get 21 _ rfl)
      | (go_at_call 88; (with_reducible refine (K2.out _).mono ?_); rintro _ w9 ⟨rfl, rfl⟩; clear K2)
      | (go_at_call 88; (with_reducible refine (K3.out _).mono ?_); rintro _ w8 ⟨rfl, rfl⟩))
    go_ret
    exact ⟨by rw [HP.out]; rfl, HB2.out⟩
  | true =>
    cases B2 with
    | false =>
      go_enter Tryd.func90, Tryd.ntmps90
      go_upto_region 1 with (refine wpList_box_cells rfl 30 _ rfl (mqCells m vc vw vf) (by exact rfl) w.heap.size rfl ?_; intro w1 hb1 hs1 hC1; have HC1 := Lib.hid hC1; have HB1 := Lib.hid hb1; have HL1 := Lib.hid (show w.heap.size < w1.heap.size by omega); clear hs1 hC1 hb1; have c1_19 := HC1.out.get 19 _ rfl)
      go_wp2_with (first
        | (go_at_call 106; (with_reducible refine (K1.out w1 HB1.out).mono ?_); rintro _ w2 ⟨rfl, hb2⟩; have HC2 := Lib.hid (HC1.out.below hb2 HL1.out); have HB2 := Lib.hid (HB1.out.trans (hb2.mono HB1.out.size)); have HL2 := Lib.hid (Nat.lt_of_lt_of_le HL1.out hb2.size); clear hb2; have c2_16 := HC2.out.get 16 _ rfl; have c2_17 := HC2.out.get 17 _ rfl; have c2_20 := HC2.out.get 20 _ rfl; have c2_21 := HC2.out.get 21 _ rfl)
        | (go_at_call 88; (with_reducible refine (K2.out _).mono ?_); rintro _ w9 ⟨rfl, rfl⟩; clear K2)
        | (go_at_call 88; (with_reducible refine (K3.out _).mono ?_); rintro _ w8 ⟨rfl, rfl⟩))
      go_ret
      exact ⟨by rw [HP.out]; rfl, HB2.out⟩
    | true =>
      cases h4 : decide (0 < m.qos) with
      | true =>
        have h4' : (m.qos == 0) = false := by rw [beq_eq_false_iff_ne]; have := of_decide_eq_true h4; omega
        rw [h4, h4'] at HP
        cases B3 with
        | false =>
          go_enter Tryd.func90, Tryd.ntmps90
          go_upto_region 1 with (refine wpList_box_cells rfl 30 _ rfl (mqCells m vc vw vf) (by exact rfl) w.heap.size rfl ?_; intro w1 hb1 hs1 hC1; have HC1 := Lib.hid hC1; have HB1 := Lib.hid hb1; have HL1 := Lib.hid (show w.heap.size < w1.heap.size by omega); clear hs1 hC1 hb1; have c1_19 := HC1.out.get 19 _ rfl)
          go_wp2_with (first
            | (go_at_call 106; (with_reducible refine (K1.out w1 HB1.out).mono ?_); rintro _ w2 ⟨rfl, hb2⟩; have HC2 := Lib.hid (HC1.out.below hb2 HL1.out); have HB2 := Lib.hid (HB1.out.trans (hb2.mono HB1.out.size)); have HL2 := Lib.hid (Nat.lt_of_lt_of_le HL1.out hb2.size); clear hb2; have c2_16 := HC2.out.get 16 _ rfl; have c2_17 := HC2.out.get 17 _ rfl; have c2_20 := HC2.out.get 20 _ rfl; have c2_21 := HC2.out.get 21 _ rfl)
            | (go_at_call 88; (with_reducible refine (K2.out _).mono ?_); rintro _ w9 ⟨rfl, rfl⟩; clear K2)
            | (go_at_call 88; (with_reducible refine (K3.out _).mono ?_); rintro _ w8 ⟨rfl, rfl⟩))
          go_ret
          exact ⟨by rw [HP.out]; rfl, HB2.out⟩
        | true =>
          cases h9 : decide ((m.payload.size : Int) ≤ 128) with
          | true =>
            rw [h9] at HP
            go_enter Tryd.func90, Tryd.ntmps90
            go_upto_region 1 with (refine wpList_box_cells rfl 30 _ rfl (mqCells m vc vw vf) (by exact rfl) w.heap.size rfl ?_; intro w1 hb1 hs1 hC1; have HC1 := Lib.hid hC1; have HB1 := Lib.hid hb1; have HL1 := Lib.hid (show w.heap.size < w1.heap.size by omega); clear hs1 hC1 hb1; have c1_19 := HC1.out.get 19 _ rfl)
            go_wp2_with (first
              | (go_at_call 106; (with_reducible refine (K1.out w1 HB1.out).mono ?_); rintro _ w2 ⟨rfl, hb2⟩; have HC2 := Lib.hid (HC1.out.below hb2 HL1.out); have HB2 := Lib.hid (HB1.out.trans (hb2.mono HB1.out.size)); have HL2 := Lib.hid (Nat.lt_of_lt_of_le HL1.out hb2.size); clear hb2; have c2_16 := HC2.out.get 16 _ rfl; have c2_17 := HC2.out.get 17 _ rfl; have c2_20 := HC2.out.get 20 _ rfl; have c2_21 := HC2.out.get 21 _ rfl)
              | (go_at_call 88; (with_reducible refine (K2.out _).mono ?_); rintro _ w9 ⟨rfl, rfl⟩; clear K2)
              | (go_at_call 88; (with_reducible refine (K3.out _).mono ?_); rintro _ w8 ⟨rfl, rfl⟩))
            go_ret
            exact ⟨by rw [HP.out]; rfl, HB2.out⟩
          | false =>
            rw [h9] at HP
            go_enter Tryd.func90, Tryd.ntmps90
            go_upto_region 1 with (refine wpList_box_cells rfl 30 _ rfl (mqCells m vc vw vf) (by exact rfl) w.heap.size rfl ?_; intro w1 hb1 hs1 hC1; have HC1 := Lib.hid hC1; have HB1 := Lib.hid hb1; have HL1 := Lib.hid (show w.heap.size < w1.heap.size by omega); clear hs1 hC1 hb1; have c1_19 := HC1.out.get 19 _ rfl)
            go_wp2_with (first
              | (go_at_call 106; (with_reducible refine (K1.out w1 HB1.out).mono ?_); rintro _ w2 ⟨rfl, hb2⟩; have HC2 := Lib.hid (HC1.out.below hb2 HL1.out); have HB2 := Lib.hid (HB1.out.trans (hb2.mono HB1.out.size)); have HL2 := Lib.hid (Nat.lt_of_lt_of_le HL1.out hb2.size); clear hb2; have c2_16 := HC2.out.get 16 _ rfl; have c2_17 := HC2.out.get 17 _ rfl; have c2_20 := HC2.out.get 20 _ rfl; have c2_21 := HC2.out.get 21 _ rfl)
              | (go_at_call 88; (with_reducible refine (K2.out _).mono ?_); rintro _ w9 ⟨rfl, rfl⟩; clear K2)
              | (go_at_call 88; (with_reducible refine (K3.out _).mono ?_); rintro _ w8 ⟨rfl, rfl⟩))
            go_ret
            exact ⟨by rw [HP.out]; rfl, HB2.out⟩
      | false =>
        rw [h4] at HP
        cases h5 : (m.qos == 0) with
        | true =>
          rw [h5] at HP
          cases h6 : (m.id == 0) with
          | true =>
            rw [h6] at HP
            cases h7 : m.dup with
            | true =>
              rw [h7] at HP
              go_enter Tryd.func90, Tryd.ntmps90
              go_upto_region 1 with (refine wpList_box_cells rfl 30 _ rfl (mqCells m vc vw vf) (by exact rfl) w.heap.size rfl ?_; intro w1 hb1 hs1 hC1; have HC1 := Lib.hid hC1; have HB1 := Lib.hid hb1; have HL1 := Lib.hid (show w.heap.size < w1.heap.size by omega); clear hs1 hC1 hb1; have c1_19 := HC1.out.get 19 _ rfl)
              go_wp2_with (first
                | (go_at_call 106; (with_reducible refine (K1.out w1 HB1.out).mono ?_); rintro _ w2 ⟨rfl, hb2⟩; have HC2 := Lib.hid (HC1.out.below hb2 HL1.out); have HB2 := Lib.hid (HB1.out.trans (hb2.mono HB1.out.size)); have HL2 := Lib.hid (Nat.lt_of_lt_of_le HL1.out hb2.size); clear hb2; have c2_16 := HC2.out.get 16 _ rfl; have c2_17 := HC2.out.get 17 _ rfl; have c2_20 := HC2.out.get 20 _ rfl; have c2_21 := HC2.out.get 21 _ rfl)
                | (go_at_call 88; (with_reducible refine (K2.out _).mono ?_); rintro _ w9 ⟨rfl, rfl⟩; clear K2)
                | (go_at_call 88; (with_reducible refine (K3.out _).mono ?_); rintro _ w8 ⟨rfl, rfl⟩))
              go_ret
              exact ⟨by rw [HP.out]; rfl, HB2.out⟩
            | false =>
              rw [h7] at HP
              cases h9 : decide ((m.payload.size : Int) ≤ 128) with
              | true =>
                rw [h9] at HP
                go_enter Tryd.func90, Tryd.ntmps90
                go_upto_region 1 with (refine wpList_box_cells rfl 30 _ rfl (mqCells m vc vw vf) (by exact rfl) w.heap.size rfl ?_; intro w1 hb1 hs1 hC1; have HC1 := Lib.hid hC1; have HB1 := Lib.hid hb1; have HL1 := Lib.hid (show w.heap.size < w1.heap.size by omega); clear hs1 hC1 hb1; have c1_19 := HC1.out.get 19 _ rfl)
                go_wp2_with (first
                  | (go_at_call 106; (with_reducible refine (K1.out w1 HB1.out).mono ?_); rintro _ w2 ⟨rfl, hb2⟩; have HC2 := Lib.hid (HC1.out.below hb2 HL1.out); have HB2 := Lib.hid (HB1.out.trans (hb2.mono HB1.out.size)); have HL2 := Lib.hid (Nat.lt_of_lt_of_le HL1.out hb2.size); clear hb2; have c2_16 := HC2.out.get 16 _ rfl; have c2_17 := HC2.out.get 17 _ rfl; have c2_20 := HC2.out.get 20 _ rfl; have c2_21 := HC2.out.get 21 _ rfl)
                  | (go_at_call 88; (with_reducible refine (K2.out _).mono ?_); rintro _ w9 ⟨rfl, rfl⟩; clear K2)
                  | (go_at_call 88; (with_reducible refine (K3.out _).mono ?_); rintro _ w8 ⟨rfl, rfl⟩))
                go_ret
                exact ⟨by rw [HP.out]; rfl, HB2.out⟩
              | false =>
                rw [h9] at HP
                go_enter Tryd.func90, Tryd.ntmps90
                go_upto_region 1 with (refine wpList_box_cells rfl 30 _ rfl (mqCells m vc vw vf) (by exact rfl) w.heap.size rfl ?_; intro w1 hb1 hs1 hC1; have HC1 := Lib.hid hC1; have HB1 := Lib.hid hb1; have HL1 := Lib.hid (show w.heap.size < w1.heap.size by omega); clear hs1 hC1 hb1; have c1_19 := HC1.out.get 19 _ rfl)
                go_wp2_with (first
                  | (go_at_call 106; (with_reducible refine (K1.out w1 HB1.out).mono ?_); rintro _ w2 ⟨rfl, hb2⟩; have HC2 := Lib.hid (HC1.out.below hb2 HL1.out); have HB2 := Lib.hid (HB1.out.trans (hb2.mono HB1.out.size)); have HL2 := Lib.hid (Nat.lt_of_lt_of_le HL1.out hb2.size); clear hb2; have c2_16 := HC2.out.get 16 _ rfl; have c2_17 := HC2.out.get 17 _ rfl; have c2_20 := HC2.out.get 20 _ rfl; have c2_21 := HC2.out.get 21 _ rfl)
                  | (go_at_call 88; (with_reducible refine (K2.out _).mono ?_); rintro _ w9 ⟨rfl, rfl⟩; clear K2)
                  | (go_at_call 88; (with_reducible refine (K3.out _).mono ?_); rintro _ w8 ⟨rfl, rfl⟩))
                go_ret
                exact ⟨by rw [HP.out]; rfl, HB2.out⟩
          | false =>
            rw [h6] at HP
            go_enter Tryd.func90, Tryd.ntmps90
            go_upto_region 1 with (refine wpList_box_cells rfl 30 _ rfl (mqCells m vc vw vf) (by exact rfl) w.heap.size rfl ?_; intro w1 hb1 hs1 hC1; have HC1 := Lib.hid hC1; have HB1 := Lib.hid hb1; have HL1 := Lib.hid (show w.heap.size < w1.heap.size by omega); clear hs1 hC1 hb1; have c1_19 := HC1.out.get 19 _ rfl)
            go_wp2_with (first
              | (go_at_call 106; (with_reducible refine (K1.out w1 HB1.out).mono ?_); rintro _ w2 ⟨rfl, hb2⟩; have HC2 := Lib.hid (HC1.out.below hb2 HL1.out); have HB2 := Lib.hid (HB1.out.trans (hb2.mono HB1.out.size)); have HL2 := Lib.hid (Nat.lt_of_lt_of_le HL1.out hb2.size); clear hb2; have c2_16 := HC2.out.get 16 _ rfl; have c2_17 := HC2.out.get 17 _ rfl; have c2_20 := HC2.out.get 20 _ rfl; have c2_21 := HC2.out.get 21 _ rfl)
              | (go_at_call 88; (with_reducible refine (K2.out _).mono ?_); rintro _ w9 ⟨rfl, rfl⟩; clear K2)
              | (go_at_call 88; (with_reducible refine (K3.out _).mono ?_); rintro _ w8 ⟨rfl, rfl⟩))
            go_ret
            exact ⟨by rw [HP.out]; rfl, HB2.out⟩
        | false =>
          rw [h5] at HP
          go_enter Tryd.func90, Tryd.ntmps90
          go_upto_region 1 with (refine wpList_box_cells rfl 30 _ rfl (mqCells m vc vw vf) (by exact rfl) w.heap.size rfl ?_; intro w1 hb1 hs1 hC1; have HC1 := Lib.hid hC1; have HB1 := Lib.hid hb1; have HL1 := Lib.hid (show w.heap.size < w1.heap.size by omega); clear hs1 hC1 hb1; have c1_19 := HC1.out.get 19 _ rfl)
          go_wp2_with (first
            | (go_at_call 106; (with_reducible refine (K1.out w1 HB1.out).mono ?_); rintro _ w2 ⟨rfl, hb2⟩; have HC2 := Lib.hid (HC1.out.below hb2 HL1.out); have HB2 := Lib.hid (HB1.out.trans (hb2.mono HB1.out.size)); have HL2 := Lib.hid (Nat.lt_of_lt_of_le HL1.out hb2.size); clear hb2; have c2_16 := HC2.out.get 16 _ rfl; have c2_17 := HC2.out.get 17 _ rfl; have c2_20 := HC2.out.get 20 _ rfl; have c2_21 := HC2.out.get 21 _ rfl)
            | (go_at_call 88; (with_reducible refine (K2.out _).mono ?_); rintro _ w9 ⟨rfl, rfl⟩; clear K2)
            | (go_at_call 88; (with_reducible refine (K3.out _).mono ?_); rintro _ w8 ⟨rfl, rfl⟩))
          go_ret
          exact ⟨by rw [HP.out]; rfl, HB2.out⟩

end Go.Proofs.YtkcdkjpmbjcmdaaDoor

/-
  pack.only, kind by kind.
-/
namespace Go.Proofs.YtkcdkjpmbjcmdaaDoor
open Go.RowKit

theorem back_of {ops : Array Oper} (h : (List.range ops.size).all (fun i => match ops[i]? with | some o => o.after.all (fun e => !Region.binds .any e || decide (e.on < i)) | none => true) = true) :
    ∀ (i : Nat) (o : Oper), ops[i]? = some o → ∀ e ∈ o.after, Region.binds .any e = true → e.on < i := by
  intro i o ho e he hb
  have hi : i < ops.size := (Array.getElem?_eq_some_iff.1 ho).1
  have := List.all_eq_true.1 h i (List.mem_range.2 hi)
  rw [ho] at this
  simpa [hb] using Array.all_eq_true'.1 this e he
/-- an edge of a literal list. -/
theorem edge_of {f : Array Edge} {j : Nat} (h : f.toList.any (fun e => Region.binds .any e && e.on == j) = true) : ∃ e ∈ f, Region.binds .any e = true ∧ e.on = j := by
  obtain ⟨e, he, h⟩ := List.any_eq_true.1 h
  simp only [Bool.and_eq_true, beq_iff_eq] at h
  exact ⟨e, by simpa using he, h.1, h.2⟩

section
variable {P : Program} {ops : Array Oper} {rest : List Oper} {o : Oper} {a : Act} {w : World} {Q : Exit → Act → World → Prop}
theorem wpList_field (hgd : o.guard = none) {S f x d g off : Nat} (ho : o.op = .fieldAddr S (.tmp x) f) (hd : o.dst = some d) (hx : a.eval (.tmp x) = .pointer (some ⟨g, 0, none⟩))
    (hf : ∀ g w, (Instr.fieldAt S (.pointer (some ⟨g, 0, none⟩)) f).run P w = .ok (.pointer (some ⟨g, off, none⟩)) w) (h : wpList P ops Q rest (a.put (some d) (.pointer (some ⟨g, off, none⟩))) w) : wpList P ops Q (o :: rest) a w := by
  refine wpList_go (wanted_none hgd _) d hd _ w ?_ h
  unfold execOp
  simp only [ho, hx, Sem.run_bind, hf, Result.andThen_ok, Sem.run_pure]
theorem wpList_load1 (hgd : o.guard = none) {T x d : Nat} {p v : Value} (ho : o.op = .load T (.tmp x)) (hd : o.dst = some d) (hx : a.eval (.tmp x) = p) (hl : (Instr.loadAt T p).run P w = .ok v w)
    (h : wpList P ops Q rest (a.put (some d) v) w) : wpList P ops Q (o :: rest) a w := by
  refine wpList_go (wanted_none hgd _) d hd _ w ?_ h
  unfold execOp
  simp only [ho, hx, Sem.run_bind, hl, Result.andThen_ok, Sem.run_pure]
end

theorem store1_i (g o : Nat) (v : Int) (u : Value) (w : World) (h : w.cell? ⟨g, o, none⟩ = some u) (hf : w.frozen? ⟨g, o, none⟩ = false) : (Instr.storeAt 3 (.pointer (some ⟨g, o, none⟩)) (.int .i64 v)).run Tryd.prog w = .ok () (w.setCell ⟨g, o, none⟩ (.int .i64 v)) := by
  simp [go_sem, h, hf]
theorem store1_b (g o : Nat) (v : Bool) (u : Value) (w : World) (h : w.cell? ⟨g, o, none⟩ = some u) (hf : w.frozen? ⟨g, o, none⟩ = false) : (Instr.storeAt 4 (.pointer (some ⟨g, o, none⟩)) (.bool v)).run Tryd.prog w = .ok () (w.setCell ⟨g, o, none⟩ (.bool v)) := by
  simp [go_sem, h, hf]
theorem store1_s (g o : Nat) (v : ByteArray) (u : Value) (w : World) (h : w.cell? ⟨g, o, none⟩ = some u) (hf : w.frozen? ⟨g, o, none⟩ = false) : (Instr.storeAt 9 (.pointer (some ⟨g, o, none⟩)) (.string v)).run Tryd.prog w = .ok () (w.setCell ⟨g, o, none⟩ (.string v)) := by
  simp [go_sem, h, hf]
theorem store1_26 (g o n c : Nat) (A : Option Addr) (u : Value) (w : World) (h : w.cell? ⟨g, o, none⟩ = some u) (hf : w.frozen? ⟨g, o, none⟩ = false) : (Instr.storeAt 26 (.pointer (some ⟨g, o, none⟩)) (.slice A n c)).run Tryd.prog w = .ok () (w.setCell ⟨g, o, none⟩ (.slice A n c)) := by
  simp [go_sem, h, hf]
theorem store1_27 (g o n c : Nat) (A : Option Addr) (u : Value) (w : World) (h : w.cell? ⟨g, o, none⟩ = some u) (hf : w.frozen? ⟨g, o, none⟩ = false) : (Instr.storeAt 27 (.pointer (some ⟨g, o, none⟩)) (.slice A n c)).run Tryd.prog w = .ok () (w.setCell ⟨g, o, none⟩ (.slice A n c)) := by
  simp [go_sem, h, hf]
theorem store1_28 (g o n c : Nat) (A : Option Addr) (u : Value) (w : World) (h : w.cell? ⟨g, o, none⟩ = some u) (hf : w.frozen? ⟨g, o, none⟩ = false) : (Instr.storeAt 28 (.pointer (some ⟨g, o, none⟩)) (.slice A n c)).run Tryd.prog w = .ok () (w.setCell ⟨g, o, none⟩ (.slice A n c)) := by
  simp [go_sem, h, hf]
end Go.Proofs.YtkcdkjpmbjcmdaaDoor
