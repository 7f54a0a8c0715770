/-
  Texts of the claim: RdL RdK ParW ParP BoxQ Concat Fed FeedW TrPacks Row Read CopyM Weigh AskMq RWish RMay.
-/
import Derived.Deep.LoopGhost
import Derived.Lib.AppendZerosOnto
import Derived.Lib.SliceRun
import Derived.WalkKit
import Derived.Test.YtlacidnnankjlaaGreatDoorRows
import Derived.ProofKit
import Derived.SizedLaws
import Derived.Carry
import Derived.ChangeSame
import Derived.Deep.Slices
import Derived.Deep.Fields
import Derived.LaidMore
import Derived.LaidLaws
import Derived.Handed
import Derived.Stop.Joined
import Derived.Deep.Strs
import Derived.Deep.SlicePairs
import Derived.Test.YtlacidnnankjlaaGreatDoorTt4
namespace Go.Proofs.YtlacidnnankjlaaGreatDoor
set_option maxRecDepth 100000
set_option maxHeartbeats 25600000
section
open Go.RowKit
def Listed (w0 : World) (B g gp base : Nat) (r : Mq × Rd) (e : Ending) (w' : World) : Prop :=
 e = .returned (.tuple #[]) ∧ RdAt w' B g r.2 ∧ w0.grownBy w' (some g) ∧ gp < w'.heap.size ∧
  ∃ vc vw vf, Cells w' gp (mqCells r.1 vc vw vf) ∧ w'.ownsRow base 3 1 vc r.1.codes.length (r.1.codes.map iv) ∧ w'.ownsRow base 161 2 vw r.1.wishes.length (wv r.1.wishes) ∧ w'.ownsRow base 9 1 vf r.1.filters.length (r.1.filters.map sv)
theorem packLists9 (B g gp : Nat) (s : Rd) (hs : s.1.length ≤ 1000000) (w0 w : World) (hR : RdAt w B g s) (hC : Cells w gp (mqCells (mq0 9) nilV nilV nilV)) (hG : w0.grownBy w (some g)) (hp : w0.heap.size ≤ gp) (hB : B ≤ gp) (hne : gp ≠ g) (hlt : gp < w.heap.size) :
  Calls Tryz.prog 144 #[.pointer (some ⟨g, 0, none⟩), .pointer (some ⟨gp, 0, none⟩)] w (Listed w0 B g gp w.heap.size (loopP 9 ((twoP s).2.1.length + 1) { mq0 9 with id := ((twoP s).1 : Int) } (twoP s).2)) := by
 have HP := Lib.hid hp
 have HBp := Lib.hid hB
 have HNe := Lib.hid hne
 have HC0 := Lib.hid hC
 have HG0 := Lib.hid hG
 have HL0 := Lib.hid hlt
 have K1 := Lib.hid (packTwoR B g s w hR)
 have HgW : Hid (g < w.heap.size) := by
  obtain ⟨_, _, _, _, _, _, _, _, _, h⟩ := hR
  exact h
 have HLW : Hid (gp < w.heap.size) := hlt
 clear hp hB hne hC hG hlt hR
 generalize hl : (twoP s).2.1.length + 1 = L
 have hs2 : (twoP s).2.1.length ≤ 1000000 := Nat.le_trans (twoP_le s) hs
 generalize twoP s = t at *
 obtain ⟨i, s1⟩ := t
 dsimp only at *
 generalize hfin : loopP 9 L { mq0 9 with id := (i : Int) } s1 = fin
 have HF := Lib.hid hfin
 have HS2 := Lib.hid hs2
 have HLL := Lib.hid hl
 clear hfin hl hs2 hs
 go_enter Tryz.func144, Tryz.ntmps144
 go_wp2_with fail
 (with_reducible refine K1.out.mono ?_)
 rintro _ w1 ⟨rfl, hR1, hg1⟩
 have HC1 := Lib.hid (HC0.out.kept hg1 HL0.out (by simpa using HNe.out))
 have c1 := HC1.out.get 20 _ rfl
 have f1 := HC1.out.fr 20 rfl
 go_wp2_with fail
 go_loopg [] L (fun gk wx => ∃ (l : List Int) (s' : Rd) (vc : Value), RdAt wx B g s' ∧ w0.grownBy wx (some g) ∧ gp < wx.heap.size ∧ w.heap.size ≤ wx.heap.size ∧ Hid (Cells wx gp (mqCells { mq0 9 with id := (i : Int), codes := l } vc nilV nilV)) ∧
  Hid (wx.ownsRow w.heap.size 3 1 vc l.length (l.map iv)) ∧ Hid (loopP 9 gk { mq0 9 with id := (i : Int), codes := l } s' = fin) ∧ 0 < gk ∧ (s'.2 = false → s'.1.length < gk) ∧ l.length + gk ≤ 1000010)
 case atStart =>
  have hl := HLL.out
  have h2 := HS2.out
  refine ⟨[], s1, nilV, hR1.store (a := ⟨gp, 20, none⟩) HBp.out HNe.out _, grown_store (HG0.out.trans hg1) (a := ⟨gp, 20, none⟩) HP.out _, lt_set (Nat.lt_of_lt_of_le HL0.out hg1.size) _ _, by rw [size_setCell']; exact hg1.size, HC1.out.set 20 _ (by simp), World.ownsRow_nil _ _ _ _, HF.out, by omega, fun _ => by omega, by simp; omega⟩
 case round =>
  obtain ⟨l, s', vc, hR, hG, hL, hW, hC, hO, hk, hgk, hl2, hll⟩ := hrel
  have KM := Lib.hid (packMore B g s' _ hR)
  by_cases hm : s'.2 = false ∧ 0 < s'.1.length
  ·have hMore : (!s'.2 && decide (0 < s'.1.length)) = true := by rw [hm.1, decide_eq_true hm.2]; rfl
   rw [hMore] at KM
   obtain ⟨gk, rfl⟩ : ∃ n, gk = n + 1 := ⟨gk - 1, by omega⟩
   obtain ⟨⟨x, s2⟩, e1⟩ : ∃ r, oneP s' = r := ⟨_, rfl⟩
   have hk2 : loopP 9 gk { mq0 9 with id := (i : Int), codes := l ++ [(x.toNat : Int)] } s2 = fin := by
    have := hk.out
    unfold loopP at this
    rw [if_pos hm, if_neg (by decide), if_pos rfl, e1] at this
    exact this
   have hg2 : s2.2 = false → s2.1.length + 1 = s'.1.length := by
    intro h
    have := oneP_good s' (by rw [e1]; exact h)
    rw [e1] at this
    exact this.2
   have hgk2 : 0 < gk ∧ (s2.2 = false → s2.1.length < gk) := by
    have := hl2 hm.1
    exact ⟨by omega, fun h => by have := hg2 h; omega⟩
   have HK := Lib.hid hk2
   have HGK := Lib.hid hgk2
   obtain ⟨A, c, rfl, _, _⟩ := own_shape hO.out
   have hgW := HgW.out
   have hlm : l.length + 1 ≤ maxLen := by unfold maxLen; omega
   have hlb : (l.length + 1) * 8 ≤ 140737488355328 := by omega
   have c0 := hC.out.get 0 _ rfl
   have c15 := hC.out.get 15 _ rfl
   have f15 := hC.out.fr 15 rfl
   have HR := Lib.hid hR
   have HGr := Lib.hid hG
   clear hMore hk hk2 hg2 hgk2 hgk hl2 hm hR hG
   go_wp2_with (go_at_call 164; (with_reducible refine KM.out.mono ?_); rintro _ w' ⟨rfl, rfl⟩)
   clear KM
   go_region_law
    (first
     | (go_simp; go_at_call 140; (with_reducible refine (packOneQ B g _ e1 _ HR.out.drew).mono ?_); rintro _ w2 ⟨rfl, hR2, hg2⟩; replace hg2 := of_drew_grown hg2; have HC2 := Lib.hid (hC.out.kept hg2 hL (by simpa using HNe.out)); have c15' := HC2.out.get 15 _ rfl; have HO2 := Lib.hid (hO.out.kept hg2 (Or.inr (Ne.symm (own_ne hO.out (Or.inl hgW))))); have hW2 := Nat.le_trans hW hg2.size; have hL2 := Nat.lt_of_lt_of_le hL hg2.size)
     | (refine step_append_row rfl _ _ 45 rfl w.heap.size 3 (.int .i64 0) 1 8 Tryz.underlying45 info_int rfl (by decide) _ _ (l.map iv) (by exact rfl) (HO2.out.alloc _) _ 1 1 [iv (x.toNat : Int)] (by exact rfl) (Reads.lit w2 3 [iv (x.toNat : Int)] (0, 0) 1 1 rfl) (one_iv _) hlm hlb (Nat.le_trans hW2 (balloc _ _).size) ?_; intro A3 c3 w3 hO3 hg3; have HC3 := Lib.hid ((HC2.out.alloc hL2 _).kept hg3 (Nat.lt_trans hL2 (lt_alloc _ _)) (own_ne HO2.out (Or.inl HLW.out))); have c15'' := HC3.out.get 15 _ rfl; have f15'' := HC3.out.fr 15 rfl))
   all_goals
    have hL3 := Nat.lt_of_lt_of_le (Nat.lt_trans hL2 (lt_alloc w2 (.cells #[iv (x.toNat : Int)] 3))) hg3.size
    have hW3 := Nat.le_trans hW2 (Nat.le_trans (Nat.le_of_lt (lt_alloc w2 (.cells #[iv (x.toNat : Int)] 3))) hg3.size)
    have hG3 : w0.grownBy w3 (some g) := grown_row_of (HGr.out.trans hg2) HO2.out (Nat.le_trans HP.out (Nat.le_of_lt HLW.out)) _ hg3
    have hR3 : RdAt w3 B g s2 := hR2.row_of HO2.out HgW.out _ hg3
    have HO3 := Lib.hid hO3
    clear hO3
    go_wp2_with fail
    go_roundg gk
    case measure => omega
    case rel =>
     refine ⟨l ++ [(x.toNat : Int)], s2, .slice A3 (l.length + 1) c3, hR3.store (a := ⟨gp, 15, none⟩) HBp.out HNe.out _, grown_store hG3 (a := ⟨gp, 15, none⟩) HP.out _, lt_set hL3 _ _, by rw [size_setCell']; exact hW3, ?_, ?_, HK.out, HGK.out.1, HGK.out.2, ?_⟩
     ·exact HC3.out.set 15 _ (by simp)
     ·have := ownsRow_setCell_below HO3.out (a := ⟨gp, 15, none⟩) HLW.out (.slice A3 (l.length + 1) c3)
      unfold Hid
      rw [map_iv_snoc, List.length_append]
      exact this
     ·simp; omega
  ·have hMore : (!s'.2 && decide (0 < s'.1.length)) = false := by
    rw [Bool.and_eq_false_iff]
    by_cases h : s'.2 = false
    ·exact Or.inr (decide_eq_false fun h0 => hm ⟨h, h0⟩)
    ·exact Or.inl (by simpa using h)
   rw [hMore] at KM
   obtain ⟨gk, rfl⟩ : ∃ n, gk = n + 1 := ⟨gk - 1, by omega⟩
   have hk2 := hk.out
   unfold loopP at hk2
   rw [if_neg hm] at hk2
   have HK := Lib.hid hk2
   clear hk hk2 hm hMore
   go_wp2_with (go_at_call 164; (with_reducible refine KM.out.mono ?_); rintro _ w' ⟨rfl, rfl⟩)
   refine bodyPost_end (results_none rfl _ _ _) rfl ?_
   rw [← HK.out]
   exact ⟨rfl, hR, hG, hL, vc, nilV, nilV, hC.out, hO.out, World.ownsRow_nil _ _ _ _, World.ownsRow_nil _ _ _ _⟩
theorem packLists10 (B g gp : Nat) (s : Rd) (hs : s.1.length ≤ 1000000) (w0 w : World) (hR : RdAt w B g s) (hC : Cells w gp (mqCells (mq0 10) nilV nilV nilV)) (hG : w0.grownBy w (some g)) (hp : w0.heap.size ≤ gp) (hB : B ≤ gp) (hne : gp ≠ g) (hlt : gp < w.heap.size) :
  Calls Tryz.prog 144 #[.pointer (some ⟨g, 0, none⟩), .pointer (some ⟨gp, 0, none⟩)] w (Listed w0 B g gp w.heap.size (loopP 10 ((twoP s).2.1.length + 1) { mq0 10 with id := ((twoP s).1 : Int) } (twoP s).2)) := by
 have HP := Lib.hid hp
 have HBp := Lib.hid hB
 have HNe := Lib.hid hne
 have HC0 := Lib.hid hC
 have HG0 := Lib.hid hG
 have HL0 := Lib.hid hlt
 have K1 := Lib.hid (packTwoR B g s w hR)
 have HgW : Hid (g < w.heap.size) := by
  obtain ⟨_, _, _, _, _, _, _, _, _, h⟩ := hR
  exact h
 have HLW : Hid (gp < w.heap.size) := hlt
 clear hp hB hne hC hG hlt hR
 generalize hl : (twoP s).2.1.length + 1 = L
 have hs2 : (twoP s).2.1.length ≤ 1000000 := Nat.le_trans (twoP_le s) hs
 generalize twoP s = t at *
 obtain ⟨i, s1⟩ := t
 dsimp only at *
 generalize hfin : loopP 10 L { mq0 10 with id := (i : Int) } s1 = fin
 have HF := Lib.hid hfin
 have HS2 := Lib.hid hs2
 have HLL := Lib.hid hl
 clear hfin hl hs2 hs
 go_enter Tryz.func144, Tryz.ntmps144
 go_wp2_with fail
 (with_reducible refine K1.out.mono ?_)
 rintro _ w1 ⟨rfl, hR1, hg1⟩
 have HC1 := Lib.hid (HC0.out.kept hg1 HL0.out (by simpa using HNe.out))
 have c1 := HC1.out.get 20 _ rfl
 have f1 := HC1.out.fr 20 rfl
 go_wp2_with fail
 go_loopg [] L (fun gk wx => ∃ (l : List ByteArray) (s' : Rd) (vc : Value), RdAt wx B g s' ∧ w0.grownBy wx (some g) ∧ gp < wx.heap.size ∧ w.heap.size ≤ wx.heap.size ∧ Hid (Cells wx gp (mqCells { mq0 10 with id := (i : Int), filters := l } nilV nilV vc)) ∧
  Hid (wx.ownsRow w.heap.size 9 1 vc l.length (l.map sv)) ∧ Hid (loopP 10 gk { mq0 10 with id := (i : Int), filters := l } s' = fin) ∧ 0 < gk ∧ (s'.2 = false → s'.1.length < gk) ∧ l.length + gk ≤ 1000010)
 case atStart =>
  have hl := HLL.out
  have h2 := HS2.out
  refine ⟨[], s1, nilV, hR1.store (a := ⟨gp, 20, none⟩) HBp.out HNe.out _, grown_store (HG0.out.trans hg1) (a := ⟨gp, 20, none⟩) HP.out _, lt_set (Nat.lt_of_lt_of_le HL0.out hg1.size) _ _, by rw [size_setCell']; exact hg1.size, HC1.out.set 20 _ (by simp), World.ownsRow_nil _ _ _ _, HF.out, by omega, fun _ => by omega, by simp; omega⟩
 case round =>
  obtain ⟨l, s', vc, hR, hG, hL, hW, hC, hO, hk, hgk, hl2, hll⟩ := hrel
  have KM := Lib.hid (packMore B g s' _ hR)
  by_cases hm : s'.2 = false ∧ 0 < s'.1.length
  ·have hMore : (!s'.2 && decide (0 < s'.1.length)) = true := by rw [hm.1, decide_eq_true hm.2]; rfl
   rw [hMore] at KM
   obtain ⟨gk, rfl⟩ : ∃ n, gk = n + 1 := ⟨gk - 1, by omega⟩
   obtain ⟨⟨x, s2⟩, e1⟩ : ∃ r, textP s' = r := ⟨_, rfl⟩
   have hk2 : loopP 10 gk { mq0 10 with id := (i : Int), filters := l ++ [x] } s2 = fin := by
    have := hk.out
    unfold loopP at this
    rw [if_pos hm, if_neg (by decide), if_neg (by decide), e1] at this
    exact this
   have hg2 : s2.2 = false → s2.1.length + 2 ≤ s'.1.length := by
    intro h
    have := textP_good s' (by rw [e1]; exact h)
    rw [e1] at this
    exact this.2
   have hgk2 : 0 < gk ∧ (s2.2 = false → s2.1.length < gk) := by
    have := hl2 hm.1
    exact ⟨by omega, fun h => by have := hg2 h; omega⟩
   have HK := Lib.hid hk2
   have HGK := Lib.hid hgk2
   obtain ⟨A, c, rfl, _, _⟩ := own_shape hO.out
   have hgW := HgW.out
   have hlm : l.length + 1 ≤ maxLen := by unfold maxLen; omega
   have hlb : (l.length + 1) * 16 ≤ 140737488355328 := by omega
   have c0 := hC.out.get 0 _ rfl
   have c23 := hC.out.get 23 _ rfl
   have f23 := hC.out.fr 23 rfl
   have HR := Lib.hid hR
   have HGr := Lib.hid hG
   clear hMore hk hk2 hg2 hgk2 hgk hl2 hm hR hG
   go_wp2_with (go_at_call 164; (with_reducible refine KM.out.mono ?_); rintro _ w' ⟨rfl, rfl⟩)
   clear KM
   go_region_law
    (first
     | (go_simp; go_at_call 141; (with_reducible refine (packTextQ B g _ e1 _ HR.out.drew).mono ?_); rintro _ w2 ⟨rfl, hR2, hg2⟩; replace hg2 := of_drew_grown hg2; have HC2 := Lib.hid (hC.out.kept hg2 hL (by simpa using HNe.out)); have c23' := HC2.out.get 23 _ rfl; have HO2 := Lib.hid (hO.out.kept hg2 (Or.inr (Ne.symm (own_ne hO.out (Or.inl hgW))))); have hW2 := Nat.le_trans hW hg2.size; have hL2 := Nat.lt_of_lt_of_le hL hg2.size)
     | (refine step_append_row rfl _ _ 47 rfl w.heap.size 9 (.string ⟨#[]⟩) 1 16 Tryz.underlying47 info_string rfl (by decide) _ _ (l.map sv) (by exact rfl) (HO2.out.alloc _) _ 1 1 [sv x] (by exact rfl) (Reads.lit w2 9 [sv x] (0, 0) 1 1 rfl) (one_sv _) hlm hlb (Nat.le_trans hW2 (balloc _ _).size) ?_; intro A3 c3 w3 hO3 hg3; have HC3 := Lib.hid ((HC2.out.alloc hL2 _).kept hg3 (Nat.lt_trans hL2 (lt_alloc _ _)) (own_ne HO2.out (Or.inl HLW.out))); have c23'' := HC3.out.get 23 _ rfl; have f23'' := HC3.out.fr 23 rfl))
   all_goals
    have hL3 := Nat.lt_of_lt_of_le (Nat.lt_trans hL2 (lt_alloc w2 (.cells #[sv x] 9))) hg3.size
    have hW3 := Nat.le_trans hW2 (Nat.le_trans (Nat.le_of_lt (lt_alloc w2 (.cells #[sv x] 9))) hg3.size)
    have hG3 : w0.grownBy w3 (some g) := grown_row_of (HGr.out.trans hg2) HO2.out (Nat.le_trans HP.out (Nat.le_of_lt HLW.out)) _ hg3
    have hR3 : RdAt w3 B g s2 := hR2.row_of HO2.out HgW.out _ hg3
    have HO3 := Lib.hid hO3
    clear hO3
    go_wp2_with fail
    go_roundg gk
    case measure => omega
    case rel =>
     refine ⟨l ++ [x], s2, .slice A3 (l.length + 1) c3, hR3.store (a := ⟨gp, 23, none⟩) HBp.out HNe.out _, grown_store hG3 (a := ⟨gp, 23, none⟩) HP.out _, lt_set hL3 _ _, by rw [size_setCell']; exact hW3, ?_, ?_, HK.out, HGK.out.1, HGK.out.2, ?_⟩
     ·exact HC3.out.set 23 _ (by simp)
     ·have := ownsRow_setCell_below HO3.out (a := ⟨gp, 23, none⟩) HLW.out (.slice A3 (l.length + 1) c3)
      unfold Hid
      rw [map_sv_snoc, List.length_append]
      exact this
     ·simp; omega
  ·have hMore : (!s'.2 && decide (0 < s'.1.length)) = false := by
    rw [Bool.and_eq_false_iff]
    by_cases h : s'.2 = false
    ·exact Or.inr (decide_eq_false fun h0 => hm ⟨h, h0⟩)
    ·exact Or.inl (by simpa using h)
   rw [hMore] at KM
   obtain ⟨gk, rfl⟩ : ∃ n, gk = n + 1 := ⟨gk - 1, by omega⟩
   have hk2 := hk.out
   unfold loopP at hk2
   rw [if_neg hm] at hk2
   have HK := Lib.hid hk2
   clear hk hk2 hm hMore
   go_wp2_with (go_at_call 164; (with_reducible refine KM.out.mono ?_); rintro _ w' ⟨rfl, rfl⟩)
   refine bodyPost_end (results_none rfl _ _ _) rfl ?_
   rw [← HK.out]
   exact ⟨rfl, hR, hG, hL, nilV, nilV, vc, hC.out, World.ownsRow_nil _ _ _ _, World.ownsRow_nil _ _ _ _, hO.out⟩
theorem packLists8 (B g gp : Nat) (s : Rd) (hs : s.1.length ≤ 1000000) (w0 w : World) (hR : RdAt w B g s) (hC : Cells w gp (mqCells (mq0 8) nilV nilV nilV)) (hG : w0.grownBy w (some g)) (hp : w0.heap.size ≤ gp) (hB : B ≤ gp) (hne : gp ≠ g) (hlt : gp < w.heap.size) :
  Calls Tryz.prog 144 #[.pointer (some ⟨g, 0, none⟩), .pointer (some ⟨gp, 0, none⟩)] w (Listed w0 B g gp w.heap.size (loopP 8 ((twoP s).2.1.length + 1) { mq0 8 with id := ((twoP s).1 : Int) } (twoP s).2)) := by
 have HP := Lib.hid hp
 have HBp := Lib.hid hB
 have HNe := Lib.hid hne
 have HC0 := Lib.hid hC
 have HG0 := Lib.hid hG
 have HL0 := Lib.hid hlt
 have K1 := Lib.hid (packTwoR B g s w hR)
 have HgW : Hid (g < w.heap.size) := by
  obtain ⟨_, _, _, _, _, _, _, _, _, h⟩ := hR
  exact h
 have HLW : Hid (gp < w.heap.size) := hlt
 clear hp hB hne hC hG hlt hR
 generalize hl : (twoP s).2.1.length + 1 = L
 have hs2 : (twoP s).2.1.length ≤ 1000000 := Nat.le_trans (twoP_le s) hs
 generalize twoP s = t at *
 obtain ⟨i, s1⟩ := t
 dsimp only at *
 generalize hfin : loopP 8 L { mq0 8 with id := (i : Int) } s1 = fin
 have HF := Lib.hid hfin
 have HS2 := Lib.hid hs2
 have HLL := Lib.hid hl
 clear hfin hl hs2 hs
 go_enter Tryz.func144, Tryz.ntmps144
 go_wp2_with fail
 (with_reducible refine K1.out.mono ?_)
 rintro _ w1 ⟨rfl, hR1, hg1⟩
 have HC1 := Lib.hid (HC0.out.kept hg1 HL0.out (by simpa using HNe.out))
 have c1 := HC1.out.get 20 _ rfl
 have f1 := HC1.out.fr 20 rfl
 go_wp2_with fail
 go_loopg [] L (fun gk wx => ∃ (l : List (ByteArray × Int)) (s' : Rd) (vc : Value), RdAt wx B g s' ∧ w0.grownBy wx (some g) ∧ gp < wx.heap.size ∧ w.heap.size ≤ wx.heap.size ∧ Hid (Cells wx gp (mqCells { mq0 8 with id := (i : Int), wishes := l } nilV vc nilV)) ∧
  Hid (wx.ownsRow w.heap.size 161 2 vc l.length (wv l)) ∧ Hid (loopP 8 gk { mq0 8 with id := (i : Int), wishes := l } s' = fin) ∧ 0 < gk ∧ (s'.2 = false → s'.1.length < gk) ∧ l.length + gk ≤ 1000010)
 case atStart =>
  have hl := HLL.out
  have h2 := HS2.out
  refine ⟨[], s1, nilV, hR1.store (a := ⟨gp, 20, none⟩) HBp.out HNe.out _, grown_store (HG0.out.trans hg1) (a := ⟨gp, 20, none⟩) HP.out _, lt_set (Nat.lt_of_lt_of_le HL0.out hg1.size) _ _, by rw [size_setCell']; exact hg1.size, HC1.out.set 20 _ (by simp), World.ownsRow_nil _ _ _ _, HF.out, by omega, fun _ => by omega, by simp; omega⟩
 case round =>
  obtain ⟨l, s', vc, hR, hG, hL, hW, hC, hO, hk, hgk, hl2, hll⟩ := hrel
  have KM := Lib.hid (packMore B g s' _ hR)
  by_cases hm : s'.2 = false ∧ 0 < s'.1.length
  ·have hMore : (!s'.2 && decide (0 < s'.1.length)) = true := by rw [hm.1, decide_eq_true hm.2]; rfl
   rw [hMore] at KM
   obtain ⟨gk, rfl⟩ : ∃ n, gk = n + 1 := ⟨gk - 1, by omega⟩
   obtain ⟨⟨y, s3⟩, e1⟩ : ∃ r, textP s' = r := ⟨_, rfl⟩
   obtain ⟨⟨x, s2⟩, e2⟩ : ∃ r, oneP s3 = r := ⟨_, rfl⟩
   have hk2 : loopP 8 gk { mq0 8 with id := (i : Int), wishes := l ++ [(y, (x.toNat : Int))] } s2 = fin := by
    have := hk.out
    unfold loopP at this
    rw [if_pos hm, if_pos rfl, e1] at this
    dsimp only at this
    rw [e2] at this
    exact this
   have hg2 : s2.2 = false → s2.1.length + 3 ≤ s'.1.length := by
    intro h
    have h3 := oneP_good s3 (by rw [e2]; exact h)
    rw [e2] at h3
    have h4 := textP_good s' (by rw [e1]; exact h3.1)
    rw [e1] at h4
    have := h3.2
    have := h4.2
    dsimp only at *
    omega
   have hgk2 : 0 < gk ∧ (s2.2 = false → s2.1.length < gk) := by
    have := hl2 hm.1
    exact ⟨by omega, fun h => by have := hg2 h; omega⟩
   have HK := Lib.hid hk2
   have HGK := Lib.hid hgk2
   obtain ⟨A, c, rfl, _, _⟩ := own_shape hO.out
   have hgW := HgW.out
   have hlm : l.length + 1 ≤ maxLen := by unfold maxLen; omega
   have hlb : (l.length + 1) * 24 ≤ 140737488355328 := by omega
   have c0 := hC.out.get 0 _ rfl
   have HR := Lib.hid hR
   have HGr := Lib.hid hG
   clear hMore hk hk2 hg2 hgk2 hgk hl2 hm hR hG
   go_wp2_with (go_at_call 164; (with_reducible refine KM.out.mono ?_); rintro _ w' ⟨rfl, rfl⟩)
   clear KM
   go_wp2_with (go_at_call 141; (with_reducible refine (packTextQ B g _ e1 _ HR.out).mono ?_); rintro _ w5 ⟨rfl, hR5, hg5⟩)
   have HC5 := Lib.hid (hC.out.kept hg5 hL (by simpa using HNe.out))
   have c22 := HC5.out.get 22 _ rfl
   have HO5 := Lib.hid (hO.out.kept hg5 (Or.inr (Ne.symm (own_ne hO.out (Or.inl hgW)))))
   have hW5 := Nat.le_trans hW hg5.size
   have hL5 := Nat.lt_of_lt_of_le hL hg5.size
   have HR5 := Lib.hid hR5
   have HG5 := Lib.hid (HGr.out.trans hg5)
   clear hR5 hg5 hW hL HR HGr
   go_region_law
    (first
     | (go_simp; go_at_call 140; (with_reducible refine (packOneQ B g _ e2 _ HR5.out.drew).mono ?_); rintro _ w2 ⟨rfl, hR2, hg2⟩; replace hg2 := of_drew_grown hg2; have HC2 := Lib.hid (HC5.out.kept hg2 hL5 (by simpa using HNe.out)); have c22' := HC2.out.get 22 _ rfl; have HO2 := Lib.hid (HO5.out.kept hg2 (Or.inr (Ne.symm (own_ne HO5.out (Or.inl hgW))))); have hW2 := Nat.le_trans hW5 hg2.size; have hL2 := Nat.lt_of_lt_of_le hL5 hg2.size)
     | (refine step_append_row rfl _ _ 46 rfl w.heap.size 161 (.agg #[.string ⟨#[]⟩, .int .i64 0]) 2 24 Tryz.underlying46 info_wish rfl (by decide) _ _ (wv l) (by exact rfl) (HO2.out.alloc _) _ 1 1 (wv [(y, (x.toNat : Int))]) (by exact rfl) (Reads.lit w2 161 (wv [(y, (x.toNat : Int))]) (0, 0) 2 1 rfl) (one_wv _) hlm hlb (Nat.le_trans hW2 (balloc _ _).size) ?_; intro A3 c3 w3 hO3 hg3; have HC3 := Lib.hid ((HC2.out.alloc hL2 _).kept hg3 (Nat.lt_trans hL2 (lt_alloc _ _)) (own_ne HO2.out (Or.inl HLW.out))); have c22'' := HC3.out.get 22 _ rfl; have f22'' := HC3.out.fr 22 rfl))
   all_goals
    have hL3 := Nat.lt_of_lt_of_le (Nat.lt_trans hL2 (lt_alloc w2 (.cells (wv [(y, (x.toNat : Int))]).toArray 161))) hg3.size
    have hW3 := Nat.le_trans hW2 (Nat.le_trans (Nat.le_of_lt (lt_alloc w2 (.cells (wv [(y, (x.toNat : Int))]).toArray 161))) hg3.size)
    have hG3 : w0.grownBy w3 (some g) := grown_row_of (HG5.out.trans hg2) HO2.out (Nat.le_trans HP.out (Nat.le_of_lt HLW.out)) _ hg3
    have hR3 : RdAt w3 B g s2 := hR2.row_of HO2.out HgW.out _ hg3
    have HO3 := Lib.hid hO3
    clear hO3
    go_wp2_with fail
    go_roundg gk
    case measure => omega
    case rel =>
     refine ⟨l ++ [(y, (x.toNat : Int))], s2, .slice A3 (l.length + 1) c3, hR3.store (a := ⟨gp, 22, none⟩) HBp.out HNe.out _, grown_store hG3 (a := ⟨gp, 22, none⟩) HP.out _, lt_set hL3 _ _, by rw [size_setCell']; exact hW3, ?_, ?_, HK.out, HGK.out.1, HGK.out.2, ?_⟩
     ·exact HC3.out.set 22 _ (by simp)
     ·have := ownsRow_setCell_below HO3.out (a := ⟨gp, 22, none⟩) HLW.out (.slice A3 (l.length + 1) c3)
      unfold Hid
      rw [wv_append, List.length_append]
      exact this
     ·simp; omega
  ·have hMore : (!s'.2 && decide (0 < s'.1.length)) = false := by
    rw [Bool.and_eq_false_iff]
    by_cases h : s'.2 = false
    ·exact Or.inr (decide_eq_false fun h0 => hm ⟨h, h0⟩)
    ·exact Or.inl (by simpa using h)
   rw [hMore] at KM
   obtain ⟨gk, rfl⟩ : ∃ n, gk = n + 1 := ⟨gk - 1, by omega⟩
   have hk2 := hk.out
   unfold loopP at hk2
   rw [if_neg hm] at hk2
   have HK := Lib.hid hk2
   clear hk hk2 hm hMore
   go_wp2_with (go_at_call 164; (with_reducible refine KM.out.mono ?_); rintro _ w' ⟨rfl, rfl⟩)
   refine bodyPost_end (results_none rfl _ _ _) rfl ?_
   rw [← HK.out]
   exact ⟨rfl, hR, hG, hL, nilV, vc, nilV, hC.out, World.ownsRow_nil _ _ _ _, hO.out, World.ownsRow_nil _ _ _ _⟩
end
section
open Go.RowKit
def Rows3 (w : World) (base : Nat) (m : Mq) (vc vw vf : Value) : Prop :=
 w.ownsRow base 3 1 vc m.codes.length (m.codes.map iv) ∧ w.ownsRow base 161 2 vw m.wishes.length (wv m.wishes) ∧ w.ownsRow base 9 1 vf m.filters.length (m.filters.map sv)
def PkMid (w wx : World) (B g : Nat) (r : Mq × Rd) : Prop :=
 RdAt wx B g r.2 ∧ w.grownBy wx (some g) ∧ w.heap.size + 1 < wx.heap.size ∧ Cells wx w.heap.size (mqCells (mq0 0) nilV nilV nilV) ∧
  ∃ vc vw vf, Cells wx (w.heap.size + 1) (mqCells r.1 vc vw vf) ∧ Rows3 wx (w.heap.size + 2) r.1 vc vw vf
def Packed (w : World) (B g : Nat) (r : Mq × Rd) (e : Ending) (w' : World) : Prop :=
 ∃ vc vw vf, e = .returned (.agg (mqCells r.1 vc vw vf).toArray) ∧ RdAt w' B g r.2 ∧ w.grownBy w' (some g) ∧ Rows3 w' w.heap.size r.1 vc vw vf
theorem shr1 (f : UInt8) : bits BinOp.and IntKind.i64 ((f.toNat : Int) / 2) 3 = ((f >>> 1 &&& 3).toNat : Int) := by
 have h := f.toNat_lt
 have e : (f.toNat : Int) / 2 = ((f.toNat / 2 : Nat) : Int) := by omega
 rw [e]
 have := i64_and_nat (f.toNat / 2) 3 (by omega) (by omega)
 rw [show ((3 : Nat) : Int) = 3 from rfl] at this
 rw [this]
 congr 1
theorem own_one {w : World} {base : Nat} {e : TypeId} {size n : Nat} {v : Value} {xs : List Value} (h : w.ownsRow base e size v n xs) : v.oneCell' = true := by
 obtain ⟨A, c, rfl, _, _⟩ := own_shape h
 rfl
theorem mq_one (m : Mq) {vc vw vf : Value} (h1 : vc.oneCell' = true) (h2 : vw.oneCell' = true) (h3 : vf.oneCell' = true) : (mqCells m vc vw vf).all (·.oneCell') = true := by
 simp [List.all, h1, h2, h3]
 exact ⟨rfl, rfl, rfl, rfl, rfl, rfl, rfl, rfl, rfl, rfl, rfl, rfl, rfl, rfl, rfl, rfl, rfl, rfl, rfl, rfl, rfl⟩
theorem RdAt.below {w w' : World} {B g : Nat} {s : Rd} (h : RdAt w B g s) (hb : Below w.heap.size w w') : RdAt w' B g s := h.kept (below_grown hb none) (by simp) (by simp)
theorem RdAt.lts {w : World} {B g : Nat} {s : Rd} (h : RdAt w B g s) : B ≤ g ∧ g < w.heap.size := by obtain ⟨_, _, _, _, _, _, _, _, h, h'⟩ := h; exact ⟨h, h'⟩
theorem pk_start {w w1 w2 w3 : World} {B g : Nat} {s : Rd} {l : List Value} (hR : RdAt w B g s) (hb1 : Below w.heap.size w w1) (hs1 : w1.heap.size = w.heap.size + 1) (hb2 : Below (w.heap.size + 1) w1 w2) (hs2 : w2.heap.size = w.heap.size + 1 + 1)
  (hg3 : w2.grownBy w3 (some (w.heap.size + 1))) (hs3 : w3.heap.size = w2.heap.size) (hC3 : Cells w3 (w.heap.size + 1) l) :
  RdAt w3 B g s ∧ w1.grownBy w3 (some g) ∧ w1.heap.size ≤ w.heap.size + 1 ∧ B ≤ w.heap.size + 1 ∧ w.heap.size + 1 ≠ g ∧ w.heap.size + 1 < w3.heap.size ∧ Cells w3 (w.heap.size + 1) l ∧ w3.heap.size = w.heap.size + 2 := by
 have hb2' : Below w1.heap.size w1 w2 := by rw [hs1]; exact hb2
 have hB := hR.lts
 have hR2 := (hR.below hb1).below hb2'
 refine ⟨hR2.kept hg3 (fun k hk => by injection hk with hk; omega) (by intro e; injection e with e; omega), ?_, by omega, by omega, by omega, by omega, hC3, by omega⟩
 exact grown_mix (below_grown hb2' (some g)) hg3 (fun k hk => by injection hk with hk; omega)
theorem pk_mid {w w1 wx : World} {B g : Nat} {r : Mq × Rd} {s' : Rd} {l : List Value} {vc vw vf : Value} (hb1 : Below w.heap.size w w1) (hs1 : w1.heap.size = w.heap.size + 1) (hC1 : Cells w1 w.heap.size (mqCells (mq0 0) nilV nilV nilV)) (hg : g < w.heap.size)
  (hR : RdAt wx B g s') (hC : Cells wx (w.heap.size + 1) l) (hG : w1.grownBy wx (some g)) (hL : w.heap.size + 1 < wx.heap.size) (he : s' = r.2) (hl : l = mqCells r.1 vc vw vf) (hrows : Rows3 wx (w.heap.size + 2) r.1 vc vw vf) : PkMid w wx B g r := by
 subst he hl
 exact ⟨hR, (below_grown hb1 (some g)).trans hG, hL, hC1.kept hG (by omega) (by intro e; injection e with e; omega), vc, vw, vf, hC, hrows⟩
theorem rows_nil (w : World) (base : Nat) {m : Mq} (h1 : m.codes = []) (h2 : m.wishes = []) (h3 : m.filters = []) : Rows3 w base m nilV nilV nilV := by
 unfold Rows3
 rw [h1, h2, h3]
 exact ⟨World.ownsRow_nil _ _ _ _, World.ownsRow_nil _ _ _ _, World.ownsRow_nil _ _ _ _⟩
theorem pk_end {w wx w4 : World} {B g : Nat} {r : Mq × Rd} {vc vw vf : Value} (hR : RdAt wx B g r.2) (hG : w.grownBy wx (some g)) (hg : g ≠ w.heap.size) (hB : B ≤ w.heap.size) (hrows : Rows3 wx (w.heap.size + 2) r.1 vc vw vf)
  (h4 : wx.grownBy w4 (some w.heap.size)) : Packed w B g r (.returned (.agg (mqCells r.1 vc vw vf).toArray)) w4 := by
 obtain ⟨r1, r2, r3⟩ := hrows
 have k : ∀ {e : TypeId} {size n : Nat} {v : Value} {xs : List Value}, wx.ownsRow (w.heap.size + 2) e size v n xs → w4.ownsRow w.heap.size e size v n xs := fun h =>
  own_base (h.kept h4 (Or.inr (Ne.symm (own_ne h (Or.inl (by omega)))))) (by omega)
 exact ⟨vc, vw, vf, rfl, hR.kept h4 (fun k hk => by injection hk with hk; omega) (by intro e; injection e with e; exact hg e), grown_mix hG h4 (fun k hk => by injection hk with hk; omega), k r1, k r2, k r3⟩
theorem u8_is_one (x : UInt8) : ((x.toNat : Int) == 1) = (x == 1) := by
 by_cases h : x = 1
 ·subst h; rfl
 ·have a : (x == 1) = false := by simpa using h
  rw [a, beq_eq_false_iff_ne]
  intro e
  exact h ((byte_eq x 1).1 e)
theorem textP_le (s : Rd) : (textP s).2.1.length ≤ s.1.length := Nat.le_trans (takeP_le (twoP s).2 _) (twoP_le s)
theorem shr_1 (u : Int) (x y : Operand) (w : World) : (do eqGuard .shr 3 x y (iz u) (.int .u64 1); binOp .shr 3 (iz u) (.int .u64 1) : Sem Value).run Tryz.prog w = .ok (iz (u / 2)) w := by
 simp [go_sem]
theorem packLists (k : Int) (hk : listKind k = true) (B g gp : Nat) (s : Rd) (hs : s.1.length ≤ 1000000) (w0 w : World) (hR : RdAt w B g s) (hC : Cells w gp (mqCells (mq0 k) nilV nilV nilV)) (hG : w0.grownBy w (some g)) (hp : w0.heap.size ≤ gp) (hB : B ≤ gp) (hne : gp ≠ g) (hlt : gp < w.heap.size) :
  Calls Tryz.prog 144 #[pz g, pz gp] w (Listed w0 B g gp w.heap.size (loopP k ((twoP s).2.1.length + 1) { mq0 k with id := ((twoP s).1 : Int) } (twoP s).2)) := by
 unfold listKind at hk
 simp only [Bool.or_eq_true, beq_iff_eq] at hk
 rcases hk with rfl | rfl | rfl
 ·exact packLists8 B g gp s hs w0 w hR hC hG hp hB hne hlt
 ·exact packLists9 B g gp s hs w0 w hR hC hG hp hB hne hlt
 ·exact packLists10 B g gp s hs w0 w hR hC hG hp hB hne hlt
theorem packPacket (B g : Nat) (s : Rd) (k : Int) (f : UInt8) (hs : s.1.length ≤ 1000000) (w : World) (hR : RdAt w B g s) :
  Calls Tryz.prog 122 #[pz g, iz k, iz f.toNat] w (Packed w B g (readP k f s)) := by
 have hlts := hR.lts
 go_enter Tryz.func122, Tryz.ntmps122
 refine Has.start 72 [(0, pz g), (1, iz k), (2, iz f.toNat)] rfl rfl ⟨rfl, rfl, rfl, trivial⟩ ?_
 intro a0 H0
 refine rl ?_
 refine H0.alloc rfl rfl rfl rfl _ zero_mq ?_
 intro a1 w1 hb1 hs1 hC1 H1
 refine nt ?_
 refine H1.rg 1 fun a2 H2 => ?_
 refine H2.any (w' := w1) gz rfl rfl (.agg (mqCells (mq0 k) nilV nilV nilV).toArray) (by intro cs b h; cases h) (by kernel_rfl) (by kernel_rfl) fun a3 H3 => ?_
 refine H3.alloc rfl rfl rfl rfl _ zero_mq ?_
 intro a4 w2 hb2 hs2 hC2 H4
 refine H4.storeS rfl rfl rfl rfl rfl hC2 size_mq rfl rfl rfl ?_
 intro a5 w3 H5 hg3 hs3 hC3
 refine nt ?_
 rw [hs1] at hb2 hs2 hg3 hC3 H5
 obtain ⟨p1, p2, p3, p4, p5, p6, p7, p8⟩ := pk_start hR hb1 hs1 hb2 hs2 hg3 hs3 hC3
 have R3 : Rst w1 B g (w.heap.size + 1) s (mqCells (mq0 k) nilV nilV nilV) w3 := ⟨p1, p7, p2, p3, p4, p5, p6⟩
 have hM := fun (r : Mq × Rd) wx (s' : Rd) l vc vw vf => fun (R : Rst w1 B g (w.heap.size + 1) s' l wx) => pk_mid (w := w) (w1 := w1) (wx := wx) (r := r) (vc := vc) (vw := vw) (vf := vf) hb1 hs1 hC1 hlts.2 R.rd R.ce R.gr R.lt
 refine wp_seq_join (fun a w' => Has a 72 [(6, pz w.heap.size), (7, pz (w.heap.size + 1))] ∧ PkMid w w' B g (readP k f s)) ?_ ?_
 ·refine H5.rg 1 fun a6 H6 => nt ?_
  have H7 := H6.kp [0, 2, 6, 7, 10]
  clear hb2 hs2 hg3 hC3 hC2 H6 H5 H4 H3 H2 H1 H0 p1 p2 p3 p4 p5 p6 p7
  refine wp_block ?_
  refine H7.rg 0 fun a1 H1 => ?_
  refine H1.bn 1 (eql_i _ _ _ _ _) fun a2 H2 => nt ?_
  refine H2.cond (t := k == 1) rfl ?_
  cases b1 : (k == 1) with
  | true =>
   have k1 : k = 1 := by simpa using b1
   subst k1
   refine H2.rg 1 fun a3 H3 => ?_
   refine H3.cl (R := fun _ w' => RdAt w' B g (connP s).s ∧ Cells w' (w.heap.size + 1) (mqCells (connP s).mq nilV nilV nilV) ∧ w1.grownBy w' (some g) ∧ w.heap.size + 1 < w'.heap.size) ((packConn B g _ s w1 w3 R3.rd R3.ce R3.gr R3.ge R3.hB R3.ne R3.lt).mono fun _ _ h => ⟨_, h.1, h.2⟩) ?_
   rintro a4 v4 w4 ⟨h1, h2, h3, h4⟩ H4
   refine wpList_nil (block_normal (then_normal ⟨H4.keep ⟨rfl, rfl, trivial⟩, ?_⟩))
   exact hM _ _ _ _ nilV nilV nilV ⟨h1, h2, h3, R3.ge, R3.hB, R3.ne, h4⟩ rfl rfl (rows_nil _ _ rfl rfl rfl)
  | false =>
  refine H2.rg 0 fun a1 H1 => ?_
  refine H1.bn 1 (eql_i _ _ _ _ _) fun a2 H2 => nt ?_
  refine H2.cond (t := k == 2) rfl ?_
  cases b2 : (k == 2) with
  | true =>
   have k1 : k = 2 := by simpa using b2
   subst k1
   refine H2.rg 1 fun a3 H3 => ?_
   refine H3.rc R3 0 (packOne B g _ _ R3.rd) fun a4 w4 R4 H4 => ?_
   refine H4.bn 1 (eql_i _ _ _ _ _) fun a5 H5 => ?_
   refine H5.sb R4 0 fun a6 w6 R6 H6 => nt ?_
   refine H6.rg 1 fun a7 H7 => ?_
   refine H7.rc R6 1 (packOne B g _ _ R6.rd) fun a8 w8 R8 H8 => ?_
   refine H8.si R8 0 fun a9 w9 R9 H9 => ?_
   refine wpList_nil <| block_normal <| then_normal ⟨H9.keep ⟨rfl, rfl, trivial⟩, ?_⟩
   exact hM _ _ _ _ nilV nilV nilV R9 rfl (by rw [u8_is_one]; rfl) (rows_nil _ _ rfl rfl rfl)
  | false =>
  refine H2.rg 0 fun a1 H1 => ?_
  refine H1.bn 1 (eql_i _ _ _ _ _) fun a2 H2 => nt ?_
  refine H2.cond (t := k == 3) rfl ?_
  cases b3 : (k == 3) with
  | true =>
   have k1 : k = 3 := by simpa using b3
   subst k1
   refine H2.rg 1 fun a3 H3 => ?_
   refine H3.bn 0 (and_i _ _ _ _ _) fun a4 H4 => ?_
   refine H4.bn 1 (bit_i f 8 (by omega) _ _ _) fun a5 H5 => ?_
   refine H5.bn 0 (shr_1 _ _ _ _) fun a6 H6 => ?_
   refine H6.bn 1 (and_i _ _ _ _ _) fun a7 H7 => ?_
   refine H7.bn 0 (and_i _ _ _ _ _) fun a8 H8 => ?_
   refine H8.bn 1 (bit_i f 1 (by omega) _ _ _) fun a9 H9 => ?_
   refine H9.sb R3 1 fun b1 x1 R4 H10 => ?_
   refine H10.si R4 1 fun b2 x2 R5 H11 => ?_
   refine H11.sb R5 0 fun b3 x3 R6 H12 => nt ?_
   refine H12.rg 1 fun b4 H13 => ?_
   refine H13.rc R6 1 (packTextR B g _ _ R6.rd) fun b5 x5 R7 H14 => ?_
   refine H14.ss R7 0 fun b6 x6 R8 H15 => nt ?_
   obtain ⟨q, hq⟩ : ∃ q, (f >>> 1 &&& 3 != 0) = q := ⟨_, rfl⟩
   obtain ⟨s2, e2⟩ : ∃ s2, (if (f >>> 1 &&& 3 != 0) then (twoP (textP s).2).2 else (textP s).2) = s2 := ⟨_, rfl⟩
   have R9 := R8.is (L' := mqCells { mq0 3 with dup := bitB f 8, qos := ((f >>> 1 &&& 3).toNat : Int), retain := bitB f 1, topic := (textP s).1 } nilV nilV nilV) (by rw [shr1]; rfl) rfl
   have hq3 : (decide ((0 : Int) < ((f >>> 1 &&& 3).toNat : Int))) = q := by
    rw [← hq, Bool.eq_iff_iff, decide_eq_true_iff, bne_iff_ne]
    constructor
    ·intro h e; rw [e] at h; exact absurd h (by decide)
    ·intro h
     have : (f >>> 1 &&& 3).toNat ≠ 0 := fun e => h (UInt8.toNat_inj.1 e)
     omega
   refine wp_seq_join (fun a w' => Has a 72 [(0, pz g), (6, pz w.heap.size), (7, pz (w.heap.size + 1))] ∧ Rst w1 B g (w.heap.size + 1) s2 (mqCells { mq0 3 with dup := bitB f 8, qos := ((f >>> 1 &&& 3).toNat : Int), retain := bitB f 1, topic := (textP s).1, id := (if (f >>> 1 &&& 3 != 0) then ((twoP (textP s).2).1 : Int) else 0) } nilV nilV nilV) w') ?_ ?_
   ·refine H15.rg 1 fun c1 H16 => ?_
    refine H16.ld 0 (R9.li 17) fun c2 H17 => ?_
    refine H17.bn 0 (gtr_i _ _ q hq3 _ _ _) fun c3 H18 => nt ?_
    refine H18.cond rfl ?_
    rw [hq] at e2 ⊢
    cases q with
    | true =>
     rw [if_pos rfl] at e2
     refine H18.rg 1 fun c4 H19 => ?_
     refine H19.rc R9 1 (packTwoR B g _ _ R9.rd) fun c5 y5 R10 H20 => ?_
     refine H20.si R10 0 fun c6 y6 R11 H21 => nt ?_
     exact ⟨H21.keep ⟨rfl, rfl, rfl, trivial⟩, R11.is rfl e2⟩
    | false =>
     rw [if_neg (by decide)] at e2
     exact skip_wp (then_normal ⟨H18.keep ⟨rfl, rfl, rfl, trivial⟩, R9.is rfl e2⟩)
   clear R3 R4 R5 R6 R7 R8 R9 H1 H2 H3 H4 H5 H6 H7 H8 H9 H10 H11 H12 H13 H14 H15
   rintro a0 w0 ⟨H0, R0⟩
   obtain ⟨A, c, hcl, c0, c1, _, _, hrb, _, _⟩ := R0.rd
   refine H0.rg 3 fun a1 H1 => ?_
   refine H1.go gz rfl rfl _ (run_field rfl (H1.ev rfl) (off0 := 0) (off := 0) (fun g w => by kernel_rfl)) fun a2 H2 => ?_
   refine H2.ld 0 (load1_31 _ _ _ _ _ _ c0) fun a3 H3 => ?_
   refine H3.len gz rfl rfl rfl rfl Tryz.underlying31 fun a4 H4 => ?_
   have hle : s2.1.length ≤ 1000000 := by
    rw [← e2]
    have h1 := textP_le s
    have h2 := twoP_le (textP s).2
    split <;> omega
   refine H4.cl (R := fun v w' => ∃ A' c', v = .slice A' s2.1.length c' ∧ (takeP s2 s2.1.length).1.length = s2.1.length ∧ RB w' w'.heap.size A' (takeP s2 s2.1.length).1 ∧ RdAt w' B g (takeP s2 s2.1.length).2 ∧ w0.grownBy w' (some g)) ((packTake B g s2 s2.1.length _ rfl hle w0 R0.rd).mono ?_) ?_
   ·rintro _ _ ⟨A', c', rfl, _, h1, h2, h3, h4⟩
    exact ⟨_, rfl, A', c', rfl, h1, h2, h3, h4⟩
   rintro a5 _ w5 ⟨A', c', rfl, h1, h2, h3, h4⟩ H5
   have R5 := R0.call h3 h4
   refine H5.cv 1 (run_string_of Tryz.underlying31 Tryz.underlying5 Tryz.underlying9 h2 h1 c') fun a6 H6 => ?_
   refine H6.ss R5 0 fun a7 w7 R7 H7 => ?_
   refine wpList_nil <| block_normal <| then_normal ⟨H7.keep ⟨rfl, rfl, trivial⟩, ?_⟩
   refine hM _ _ _ _ nilV nilV nilV R7 ?_ ?_ (rows_nil _ _ rfl rfl rfl)
   ·subst e2; rfl
   ·subst e2; rfl
  | false =>
  have n1 := kind_not b1
  have n2 := kind_not b2
  have n3 := kind_not b3
  refine wp_seq_join (fun a w' => Has a 72 [(0, pz g), (6, pz w.heap.size), (7, pz (w.heap.size + 1)), (10, iz k), (56, .bool (listKind k))] ∧ w3 = w') ?_ ?_
  ·refine H2.rg 0 fun a1 H1 => ?_
   refine H1.bn 1 (eql_i _ _ _ _ _) fun a2 H2 => nt ?_
   refine H2.cond (t := k == 8) rfl ?_
   cases c1 : (k == 8) with
   | true => exact skip_wp (then_normal ⟨H2.keep ⟨rfl, rfl, rfl, rfl, congrArg (fun b => some (Value.bool b)) (by unfold listKind; rw [c1]; rfl), trivial⟩, rfl⟩)
   | false =>
   refine H2.rg 0 fun a1 H1 => ?_
   refine H1.bn 1 (eql_i _ _ _ _ _) fun a2 H2 => nt ?_
   refine H2.cond (t := k == 9) rfl ?_
   cases c2 : (k == 9) with
   | true => exact skip_wp (then_normal ⟨H2.keep ⟨rfl, rfl, rfl, rfl, congrArg (fun b => some (Value.bool b)) (by unfold listKind; rw [c1, c2]; rfl), trivial⟩, rfl⟩)
   | false =>
   refine H2.rg 0 fun a1 H1 => ?_
   refine H1.bn 1 (eql_i _ _ _ _ _) fun a2 H2 => nt ?_
   exact ⟨H2.keep ⟨rfl, rfl, rfl, rfl, congrArg (fun b => some (Value.bool b)) (by unfold listKind; rw [c1, c2]; rfl), trivial⟩, rfl⟩
  clear H1 H2
  rintro a0 _ ⟨H0, rfl⟩
  refine H0.cond (t := listKind k) rfl ?_
  cases b4 : listKind k with
  | true =>
   refine H0.rg 1 fun a1 H1 => ?_
   refine H1.cl (R := fun _ w' => Listed w1 B g (w.heap.size + 1) w3.heap.size (loopP k ((twoP s).2.1.length + 1) { mq0 k with id := ((twoP s).1 : Int) } (twoP s).2) (.returned (.tuple #[])) w') ((packLists k b4 B g _ s hs w1 w3 R3.rd R3.ce R3.gr R3.ge R3.hB R3.ne R3.lt).mono fun _ _ h => ⟨_, h.1, rfl, h.2⟩) ?_
   rintro a4 v4 w4 ⟨_, h1, h2, h3, vc, vw, vf, h4, h5⟩ H4
   refine wpList_nil (block_normal (then_normal ⟨H4.keep ⟨rfl, rfl, trivial⟩, ?_⟩))
   rw [p8] at h5
   have hr : readP k f s = loopP k ((twoP s).2.1.length + 1) { mq0 k with id := ((twoP s).1 : Int) } (twoP s).2 := by unfold readP; rw [if_neg n1, if_neg n2, if_neg n3, if_pos b4]
   rw [hr]
   exact hM _ _ _ _ vc vw vf ⟨h1, h4, h2, R3.ge, R3.hB, R3.ne, h3⟩ rfl rfl h5
  | false =>
  refine wp_seq_join (fun a w' => Has a 72 [(0, pz g), (6, pz w.heap.size), (7, pz (w.heap.size + 1)), (62, .bool (idKind k))] ∧ w3 = w') ?_ ?_
  ·refine H0.rg 0 fun a1 H1 => ?_
   refine H1.bn 1 (eql_i _ _ _ _ _) fun a2 H2 => nt ?_
   refine H2.cond (t := k == 4) rfl ?_
   cases c1 : (k == 4) with
   | true => exact skip_wp (then_normal ⟨H2.keep ⟨rfl, rfl, rfl, congrArg (fun b => some (Value.bool b)) (by unfold idKind; rw [c1]; rfl), trivial⟩, rfl⟩)
   | false =>
   refine H2.rg 0 fun a1 H1 => ?_
   refine H1.bn 1 (eql_i _ _ _ _ _) fun a2 H2 => nt ?_
   refine H2.cond (t := k == 5) rfl ?_
   cases c2 : (k == 5) with
   | true => exact skip_wp (then_normal ⟨H2.keep ⟨rfl, rfl, rfl, congrArg (fun b => some (Value.bool b)) (by unfold idKind; rw [c1, c2]; rfl), trivial⟩, rfl⟩)
   | false =>
   refine H2.rg 0 fun a1 H1 => ?_
   refine H1.bn 1 (eql_i _ _ _ _ _) fun a2 H2 => nt ?_
   refine H2.cond (t := k == 6) rfl ?_
   cases c3 : (k == 6) with
   | true => exact skip_wp (then_normal ⟨H2.keep ⟨rfl, rfl, rfl, congrArg (fun b => some (Value.bool b)) (by unfold idKind; rw [c1, c2, c3]; rfl), trivial⟩, rfl⟩)
   | false =>
   refine H2.rg 0 fun a1 H1 => ?_
   refine H1.bn 1 (eql_i _ _ _ _ _) fun a2 H2 => nt ?_
   refine H2.cond (t := k == 7) rfl ?_
   cases c4 : (k == 7) with
   | true => exact skip_wp (then_normal ⟨H2.keep ⟨rfl, rfl, rfl, congrArg (fun b => some (Value.bool b)) (by unfold idKind; rw [c1, c2, c3, c4]; rfl), trivial⟩, rfl⟩)
   | false =>
   refine H2.rg 0 fun a1 H1 => ?_
   refine H1.bn 1 (eql_i _ _ _ _ _) fun a2 H2 => nt ?_
   exact ⟨H2.keep ⟨rfl, rfl, rfl, congrArg (fun b => some (Value.bool b)) (by unfold idKind; rw [c1, c2, c3, c4]; rfl), trivial⟩, rfl⟩
  clear H0
  rintro a0 _ ⟨H0, rfl⟩
  refine H0.cond (t := idKind k) rfl ?_
  have hr : readP k f s = if idKind k then ({ mq0 k with id := ((twoP s).1 : Int) }, (twoP s).2) else (mq0 k, s) := by unfold readP; rw [if_neg n1, if_neg n2, if_neg n3, if_neg (by rw [b4]; decide)]
  rw [hr]
  cases b5 : idKind k with
  | true =>
   refine H0.rg 1 fun a1 H1 => ?_
   refine H1.rc R3 1 (packTwoR B g _ _ R3.rd) fun a2 w4 R4 H2 => ?_
   refine H2.si R4 0 fun a3 w5 R5 H3 => ?_
   refine wpList_nil (block_normal (then_normal ⟨H3.keep ⟨rfl, rfl, trivial⟩, ?_⟩))
   exact hM _ _ _ _ nilV nilV nilV R5 rfl rfl (rows_nil _ _ rfl rfl rfl)
  | false =>
   refine skip_wp (block_normal (then_normal ⟨H0.keep ⟨rfl, rfl, trivial⟩, ?_⟩))
   exact hM _ _ _ _ nilV nilV nilV R3 rfl rfl (rows_nil _ _ rfl rfl rfl)
 clear hM R3 H5
 rintro a0 w4 ⟨H0, hR4, hG, hL, hC0, vc, vw, vf, hC, hrows⟩
 refine H0.rg 0 fun a1 H1 => ?_
 refine H1.loadS rfl rfl rfl rfl rfl hC Tryz.underlying49 rfl size_mq rfl fun a2 H2 => ?_
 refine H2.storeS rfl rfl rfl rfl rfl hC0 size_mq rfl rfl (mq_one _ (own_one hrows.1) (own_one hrows.2.1) (own_one hrows.2.2)) fun a3 w5 H3 hg5 hs5 hC5 => ?_
 refine nt (wp_ret (bodyPost_ret (results_cells rfl _ _ (H3.at_ 6 _ rfl) hC5 Tryz.underlying49 rfl 24 size_mq rfl) H3.df ?_))
 exact pk_end hR4 hG (by omega) (by omega) hrows hg5
end
section
open Go.RowKit
section
variable {P : Program} {o : Oper} {a : Act} {w : World}
end
theorem neq_35 (u v : Int) (b : Bool) (h : (u != v) = b) (x y : Operand) (w : World) : (do eqGuard .neq 27 x y (iz u) (iz v); binOp .neq 27 (iz u) (iz v) : Sem Value).run Tryz.prog w = .ok (.bool b) w := by
 rw [← h]
 simp [go_sem]
theorem bytesEq (xs ys : List UInt8) (u v : Value) (w : World) (hu : BytesAre xs u w) (hv : BytesAre ys v w) :
  Calls Tryz.prog 123 #[u, v] w fun e w' => e = .returned (.bool (decide (xs = ys))) ∧ w = w' := by
 obtain ⟨A, c, rfl, hx⟩ := hu
 obtain ⟨B, d, rfl, hy⟩ := hv
 go_enter Tryz.func123, Tryz.ntmps123
 refine Has.start 10 [(0, .slice A xs.length c), (1, .slice B ys.length d)] rfl rfl ⟨rfl, rfl, trivial⟩ ?_
 intro a0 H0
 refine H0.rg 1 fun a1 H1 => nt ?_
 refine H1.rg 1 fun a2 H2 => ?_
 refine H2.conv gz rfl rfl rfl rfl (run_string_of Tryz.underlying31 Tryz.underlying5 Tryz.underlying9 hx rfl c) ?_
 intro a3 H3
 refine H3.ms 1 fun a4 H4 => ?_
 refine H4.conv gz rfl rfl rfl rfl (run_string_of Tryz.underlying31 Tryz.underlying5 Tryz.underlying9 hy rfl d) ?_
 intro a5 H5
 refine H5.bn 1 (eql_s _ _ _ _ _) fun a7 H7 => nt ?_
 refine wp_ret ?_
 refine bodyPost_ret (results_tmp rfl _ _ _) H7.df ⟨?_, rfl⟩
 have e : ((mkS xs).toList == (mkS ys).toList) = decide (xs = ys) := by
  rw [Lib.toList_data, Lib.toList_data, Bool.eq_iff_iff, beq_iff_eq, decide_eq_true_eq]
 rw [← e]
 exact congrArg Ending.returned (H7.at_ 4 _ rfl)
structure Small (m : Mq) : Prop where
 client : m.client.size ≤ 1000000
 wt : m.wt.size ≤ 1000000
 wp : m.wp.size ≤ 1000000
 user : m.user.size ≤ 1000000
 pass : m.pass.size ≤ 1000000
 topic : m.topic.size ≤ 1000000
 payload : m.payload.size ≤ 1000000
 wishes : ∀ s ∈ m.wishes, s.1.size ≤ 1000000
 filters : ∀ s ∈ m.filters, s.size ≤ 1000000
theorem Small.fit {m : Mq} (h : Small m) : MqFit m :=
 ⟨Nat.le_trans h.client (by decide), Nat.le_trans h.wt (by decide), Nat.le_trans h.wp (by decide), Nat.le_trans h.user (by decide), Nat.le_trans h.pass (by decide), Nat.le_trans h.topic (by decide), Nat.le_trans h.payload (by decide),
  fun s hs => Nat.le_trans (h.wishes s hs) (by decide), fun s hs => Nat.le_trans (h.filters s hs) (by decide)⟩
theorem nosz : nos.size ≤ 1000000 := by decide
theorem small0 (k : Int) : Small (mq0 k) := ⟨nosz, nosz, nosz, nosz, nosz, nosz, nosz, (fun s hs => by cases hs), (fun s hs => by cases hs)⟩
def Shorts (text : Rd → ByteArray × Rd) : Prop := ∀ s, (text s).1.size ≤ 1000000
theorem mkS_size (xs : List UInt8) : (mkS xs).size = xs.length := by simp [ByteArray.size]
theorem takeP_length (s : Rd) (n : Nat) : (takeP s n).1.length = n := by unfold takeP; split <;> simp <;> omega
theorem shortsP : Shorts textP := by
 intro s
 unfold textP
 rw [mkS_size, takeP_length]
 have := twoP_lt s
 omega
theorem small_conn {one : Rd → UInt8 × Rd} {two : Rd → Nat × Rd} {text : Rd → ByteArray × Rd} (h : Shorts text) (s : Rd) : Small (connOf one two text s).mq := by
 unfold connOf
 simp only [Conn.mq]
 refine ⟨h _, ?_, ?_, ?_, ?_, nosz, nosz, (fun s hs => by cases hs), (fun s hs => by cases hs)⟩
 all_goals (simp only []; split <;> first | exact h _ | exact nosz)
theorem small_loopP (k : Int) : ∀ (f : Nat) (m : Mq) (s : Rd), Small m → Small (loopP k f m s).1 := by
 intro f
 induction f with
 | zero => intro m s h; exact h
 | succ f ih =>
  intro m s h
  rw [loopP]
  split
  ·split
   ·refine ih _ _ ⟨h.client, h.wt, h.wp, h.user, h.pass, h.topic, h.payload, fun x hx => ?_, h.filters⟩
    rcases List.mem_append.1 hx with hx | hx
    ·exact h.wishes x hx
    ·simp only [List.mem_singleton] at hx
     subst hx
     exact shortsP _
   ·split
    ·exact ih _ _ ⟨h.client, h.wt, h.wp, h.user, h.pass, h.topic, h.payload, h.wishes, h.filters⟩
    ·refine ih _ _ ⟨h.client, h.wt, h.wp, h.user, h.pass, h.topic, h.payload, h.wishes, fun x hx => ?_⟩
     rcases List.mem_append.1 hx with hx | hx
     ·exact h.filters x hx
     ·simp only [List.mem_singleton] at hx
      subst hx
      exact shortsP _
  ·exact h
theorem takeP_left (s : Rd) (n : Nat) : (takeP s n).2.1.length ≤ s.1.length := by unfold takeP; split <;> simp
theorem small_readP (k : Int) (f : UInt8) (s : Rd) (h : s.1.length ≤ 1000000) : Small (readP k f s).1 := by
 unfold readP
 split
 ·exact small_conn shortsP _
 ·split
  ·exact ⟨nosz, nosz, nosz, nosz, nosz, nosz, nosz, (fun s hs => by cases hs), (fun s hs => by cases hs)⟩
  ·split
   ·refine ⟨nosz, nosz, nosz, nosz, nosz, ?_, ?_, (fun s hs => by cases hs), (fun s hs => by cases hs)⟩
    ·exact shortsP _
    ·simp only [pubP, pubMq]
     rw [mkS_size, takeP_length]
     split
     ·have h1 := takeP_left (oneP (oneP (textP s).2).2).2 0
      have h2 : (twoP (textP s).2).2.1.length ≤ (textP s).2.1.length := twoP_le _
      have h3 := textP_le s
      omega
     ·have h3 := textP_le s
      omega
   ·split
    ·exact small_loopP _ _ _ _ ⟨nosz, nosz, nosz, nosz, nosz, nosz, nosz, (fun s hs => by cases hs), (fun s hs => by cases hs)⟩
    ·split
     ·exact ⟨nosz, nosz, nosz, nosz, nosz, nosz, nosz, (fun s hs => by cases hs), (fun s hs => by cases hs)⟩
     ·exact small0 k
def Lens (m : Mq) (n : Nat) : Prop := m.codes.length ≤ n ∧ m.wishes.length ≤ n ∧ m.filters.length ≤ n
theorem lens_loopP (k : Int) : ∀ (f : Nat) (m : Mq) (s : Rd) (n : Nat), Lens m n → Lens (loopP k f m s).1 (n + f) := by
 intro f
 induction f with
 | zero => intro m s n h; exact h
 | succ f ih =>
  intro m s n h
  rw [loopP]
  have up : ∀ m', Lens m' (n + 1) → ∀ s, Lens (loopP k f m' s).1 (n + (f + 1)) := fun m' h' s => by
   have := ih m' s (n + 1) h'
   rwa [show n + 1 + f = n + (f + 1) by omega] at this
  obtain ⟨a, b, c⟩ := h
  split
  ·split
   ·exact up _ ⟨by simp only []; omega, by simp only [List.length_append, List.length_singleton]; omega, by simp only []; omega⟩ _
   ·split
    ·exact up _ ⟨by simp only [List.length_append, List.length_singleton]; omega, by simp only []; omega, by simp only []; omega⟩ _
    ·exact up _ ⟨by simp only []; omega, by simp only []; omega, by simp only [List.length_append, List.length_singleton]; omega⟩ _
  ·exact ⟨Nat.le_trans a (by omega), Nat.le_trans b (by omega), Nat.le_trans c (by omega)⟩
theorem lens_readP (k : Int) (f : UInt8) (s : Rd) (h : s.1.length ≤ 1000000) : Lens (readP k f s).1 1000001 := by
 have z : ∀ m : Mq, m.codes = [] → m.wishes = [] → m.filters = [] → Lens m 1000001 := fun m a b c => ⟨by simp [a], by simp [b], by simp [c]⟩
 unfold readP
 split
 ·exact z _ rfl rfl rfl
 ·split
  ·exact z _ rfl rfl rfl
  ·split
   ·exact z _ rfl rfl rfl
   ·split
    ·have h2 : (twoP s).2.1.length ≤ s.1.length := twoP_le _
     obtain ⟨a, b, c⟩ := lens_loopP k ((twoP s).2.1.length + 1) { mq0 k with id := ((twoP s).1 : Int) } (twoP s).2 0 ⟨Nat.zero_le _, Nat.zero_le _, Nat.zero_le _⟩
     exact ⟨by omega, by omega, by omega⟩
    ·split
     ·exact z _ rfl rfl rfl
     ·exact z _ rfl rfl rfl
theorem MqL.of_rows {w : World} {b : Nat} {m : Mq} {vc vw vf : Value} (h : Rows3 w b m vc vw vf) {n : Nat} (hl : Lens m n) (hn : n ≤ 140737488351232) : MqL w w.heap.size m vc vw vf := by
 obtain ⟨h1, h2, h3⟩ := h
 obtain ⟨l1, l2, l3⟩ := hl
 obtain ⟨A1, c1, rfl, a1, _⟩ := own_shape h1
 obtain ⟨A2, c2, rfl, a2, _⟩ := own_shape h2
 obtain ⟨A3, c3, rfl, a3, _⟩ := own_shape h3
 exact ⟨A1, c1, A2, c2, A3, c3, rfl, rfl, rfl, a1, a2, a3, by omega, by omega, by omega, Reads.of_own h1, Reads.of_own h2, Reads.of_own h3⟩
end
section
open Go.RowKit
def ParseSaid (xs : List UInt8) (w : World) (e : Ending) (w' : World) : Prop :=
 ∃ m n er vc vw vf, Parsed xs m n er ∧ e = .returned (.tuple #[.agg (mqCells m vc vw vf).toArray, .int .i64 ((n : Nat) : Int), .int .i64 er]) ∧ (Rows3 w' w.heap.size m vc vw vf ∧ Lens m 1000001) ∧ Small m ∧ Below w.heap.size w w'
theorem none_rows (w : World) (b : Nat) (k : Int) : Rows3 w b (mq0 k) nilV nilV nilV ∧ Lens (mq0 k) 1000001 := ⟨rows_nil w b rfl rfl rfl, Nat.zero_le _, Nat.zero_le _, Nat.zero_le _⟩
theorem results_m2 {P : Program} {fn : Func} {p q r : Tmp} {T : TypeId} (h : fn.results = #[.cell p T, .tmp q, .tmp r]) (tmps : Array Value) {w : World} {g : Nat} {l : List Value} {d : TypeDesc} {u v : Value} (hp : tmps.getD p undef = .pointer (some ⟨g, 0, none⟩)) (hq : tmps.getD q undef = u) (hr : tmps.getD r undef = v) (hC : Cells w g l)
  (hu : P.underlying T = some d) (hd : d.isRow = true) {n : Nat} (hi : (P.info? T).map (·.size) = some n) (hl : l.length = n) : (results fn tmps).run P w = .ok (.tuple #[.agg l.toArray, u, v]) w := by
 rw [← hl] at hi
 have hp' : tmps[p]?.getD undef = .pointer (some ⟨g, 0, none⟩) := by simpa using hp
 have hq' : tmps[q]?.getD undef = u := by simpa using hq
 have hr' : tmps[r]?.getD undef = v := by simpa using hr
 simp [results, h, hp', hq', hr', asAddr, run_loadVar_mid w g 0 T l d hC.range hu hd hi]
theorem sizeGo_err : ∀ (f i n : Nat) (l : List UInt8) (er : Int), sizeGo f i n l = .error er → er = 7 ∨ er = 1 ∨ er = 2 := by
 intro f
 induction f with
 | zero => intro i n l er h; cases l <;> simp [sizeGo] at h <;> omega
 | succ f ih =>
  intro i n l er h
  cases l with
  | nil => simp [sizeGo] at h; omega
  | cons x r =>
   rw [sizeGo] at h
   split at h
   ·split at h
    ·injection h with h; omega
    ·exact ih _ _ _ _ h
   ·split at h
    ·injection h with h; omega
    ·split at h
     ·injection h with h; omega
     ·split at h
      ·injection h with h; omega
      ·cases h
theorem sizeD_err {xs : List UInt8} {er : Int} (h : sizeD xs = .error er) : (er != 0) = true := by
 have : er = 7 ∨ er = 1 ∨ er = 2 := by
  cases xs with
  | nil => injection h with h; omega
  | cons x r => exact sizeGo_err _ _ _ _ _ h
 rw [bne_iff_ne]
 omega
theorem parsed_err {xs : List UInt8} {er : Int} (h : sizeD xs = .error er) : Parsed xs (mq0 0) 0 er := by
 unfold Parsed
 rw [h]
 exact ⟨rfl, rfl, rfl⟩
theorem sizeC (xs : List UInt8) (A : Option Addr) (c : Nat) (r : Except Int (Nat × Nat)) (h : sizeD xs = r) (w : World) (hr : RB w w.heap.size A xs) (hl : xs.length ≤ 140737488351232) :
  Calls Tryz.prog 121 #[.slice A xs.length c] w fun e w' => e = .returned (sized r) ∧ w = w' := by
 subst h
 exact (packSize xs A c w hr hl).mono fun _ _ h => ⟨h.1, h.2.symm⟩
theorem head_of {xs : List UInt8} {x : UInt8} (h : xs[0]? = some x) : xs.headD 0 = x := by
 cases xs with
 | nil => simp at h
 | cons y r => simpa using h
theorem fieldX87_1 (g : Nat) (w : World) : (Instr.fieldAt 175 (.pointer (some ⟨g, 0, none⟩)) 1).run Tryz.prog w = .ok (.pointer (some ⟨g, 1, none⟩)) w := by kernel_rfl
theorem and15_n (x : Fin 256) : bits .and .u8 (x.val : Int) 15 = ((x.val % 16 : Nat) : Int) := by
 revert x
 decide
theorem loB_nat (x : UInt8) : (loB x).toNat = x.toNat % 16 := by
 unfold loB
 rw [UInt8.toNat_and]
 exact Nat.and_two_pow_sub_one_eq_mod x.toNat 4
theorem and15_u (x : UInt8) (a b : Operand) (w : World) : (do eqGuard .and 5 a b (.int .u8 (x.toNat : Int)) (.int .u8 15); binOp .and 5 (.int .u8 (x.toNat : Int)) (.int .u8 15) : Sem Value).run Tryz.prog w = .ok (.int .u8 ((loB x).toNat : Int)) w := by
 have e := and15_n ⟨x.toNat, x.toNat_lt⟩
 simp only [] at e
 rw [loB_nat, ← e]
 simp [go_sem]
theorem shr4_u (x : UInt8) (a b : Operand) (w : World) : (do eqGuard .shr 5 a b (.int .u8 (x.toNat : Int)) (.int .u64 4); binOp .shr 5 (.int .u8 (x.toNat : Int)) (.int .u64 4) : Sem Value).run Tryz.prog w = .ok (.int .u8 ((x.toNat / 16 : Nat) : Int)) w := by
 have := x.toNat_lt
 simp [go_sem]
structure ParMid (W : World) (g6 : Nat) (s : Rd) (w : World) : Prop where
 bel : Below W.heap.size W w
 rd : RdAt w W.heap.size g6 s
 box : Cells w W.heap.size (mqCells (mq0 0) nilV nilV nilV)
 lt : W.heap.size < w.heap.size
 ne : W.heap.size ≠ g6
theorem ParMid.drew {W w : World} {g6 : Nat} {s : Rd} (h : ParMid W g6 s w) : ParMid W g6 s w.drew :=
 ⟨h.bel.drew, h.rd.below (Below.drew (Below.refl _ _)), h.box.below (Below.drew (Below.refl _ _)) h.lt, h.lt, h.ne⟩
theorem ParMid.call {W w w' : World} {g6 : Nat} {s s' : Rd} (h : ParMid W g6 s w) (hr : RdAt w' W.heap.size g6 s') (hg : w.grownBy w' (some g6)) : ParMid W g6 s' w' :=
 ⟨h.bel.grown hg (Nat.le_of_lt h.lt) (fun k hk => by injection hk with hk; rw [← hk]; exact h.rd.lts.1), hr, h.box.kept hg h.lt (fun e => h.ne (by injection e)), Nat.lt_of_lt_of_le h.lt hg.size, h.ne⟩
structure ParEnd (W : World) (g6 : Nat) (r : Mq × Rd) (vc vw vf : Value) (w : World) : Prop where
 bel : Below W.heap.size W w
 rd : RdAt w W.heap.size g6 r.2
 box : Cells w W.heap.size (mqCells r.1 vc vw vf)
 lt : W.heap.size < w.heap.size
 rows : Rows3 w (W.heap.size + 1) r.1 vc vw vf
theorem ParMid.fin {W w w' : World} {g6 : Nat} {r : Mq × Rd} {vc vw vf : Value} (h : ParMid W g6 r.2 w) (hr : Rows3 w (W.heap.size + 1) r.1 vc vw vf) (hg : w.grownBy w' (some W.heap.size)) (hs : w'.heap.size = w.heap.size) (hC : Cells w' W.heap.size (mqCells r.1 vc vw vf)) : ParEnd W g6 r vc vw vf w' := by
 have k : ∀ {e : TypeId} {size n : Nat} {v : Value} {xs : List Value}, w.ownsRow (W.heap.size + 1) e size v n xs → w'.ownsRow (W.heap.size + 1) e size v n xs := fun h =>
  h.kept hg (Or.inr (Ne.symm (own_ne h (Or.inl (by omega)))))
 exact ⟨h.bel.grown hg (Nat.le_of_lt h.lt) (fun k hk => by injection hk with hk; rw [← hk]; exact Nat.le_refl _), h.rd.kept hg (fun k hk => by injection hk with hk; rw [← hk]; exact Nat.le_refl _) (fun e => h.ne (by injection e with e; exact e.symm)), hC, by rw [hs]; exact h.lt, k hr.1, k hr.2.1, k hr.2.2⟩
structure ParSix (W : World) (g6 : Nat) (r : Mq × Rd) (vc vw vf : Value) (w : World) : Prop where
 bel : Below W.heap.size W w
 bad : w.cell? ⟨g6, 1, none⟩ = some (.bool r.2.2)
 lt6 : g6 < w.heap.size
 box : Cells w W.heap.size (mqCells r.1 vc vw vf)
 lt : W.heap.size < w.heap.size
 rows : Rows3 w (W.heap.size + 1) r.1 vc vw vf
 len : Lens r.1 1000001
theorem ParSix.lists {W w : World} {g6 : Nat} {r : Mq × Rd} {vc vw vf : Value} (h : ParSix W g6 r vc vw vf w) : MqL w w.heap.size r.1 vc vw vf := MqL.of_rows h.rows h.len (by decide)
theorem ParSix.one {W w : World} {g6 : Nat} {r : Mq × Rd} {vc vw vf : Value} (h : ParSix W g6 r vc vw vf w) : (mqCells r.1 vc vw vf).all (·.oneCell') = true := mq_one _ (own_one h.rows.1) (own_one h.rows.2.1) (own_one h.rows.2.2)
theorem ParEnd.six {W w : World} {g6 : Nat} {r : Mq × Rd} {vc vw vf : Value} (h : ParEnd W g6 r vc vw vf w) (hl : Lens r.1 1000001) : ParSix W g6 r vc vw vf w := by
 obtain ⟨_, _, _, _, c1, _, _, _, _, hlt⟩ := h.rd
 exact ⟨h.bel, c1, hlt, h.box, h.lt, h.rows, hl⟩
theorem ParSix.call {W w w' : World} {g6 : Nat} {r : Mq × Rd} {vc vw vf : Value} (h : ParSix W g6 r vc vw vf w) (hb : Below w.heap.size w w') : ParSix W g6 r vc vw vf w' :=
 ⟨h.bel.trans (hb.mono (Nat.le_of_lt h.lt)), (cellB hb h.lt6).trans h.bad, Nat.lt_of_lt_of_le h.lt6 hb.size, h.box.below hb h.lt, Nat.lt_of_lt_of_le h.lt hb.size, ⟨own_below h.rows.1 hb, own_below h.rows.2.1 hb, own_below h.rows.2.2 hb⟩, h.len⟩
theorem ParSix.keep {W w w' : World} {g6 : Nat} {r : Mq × Rd} {vc vw vf : Value} (h : ParSix W g6 r vc vw vf w) (hg : w.grownBy w' (some W.heap.size)) (_hs : w'.heap.size = w.heap.size) : Rows3 w' W.heap.size r.1 vc vw vf ∧ Lens r.1 1000001 := by
 have k : ∀ {e : TypeId} {size n : Nat} {v : Value} {xs : List Value}, w.ownsRow (W.heap.size + 1) e size v n xs → w'.ownsRow (W.heap.size + 1) e size v n xs := fun h =>
  h.kept hg (Or.inr (Ne.symm (own_ne h (Or.inl (by omega)))))
 exact ⟨⟨own_base (k h.rows.1) (Nat.le_succ _), own_base (k h.rows.2.1) (Nat.le_succ _), own_base (k h.rows.2.2) (Nat.le_succ _)⟩, h.len⟩
theorem ParSix.belK {W w w' : World} {g6 : Nat} {r : Mq × Rd} {vc vw vf : Value} (h : ParSix W g6 r vc vw vf w) (hg : w.grownBy w' (some W.heap.size)) (_hs : w'.heap.size = w.heap.size) : Below W.heap.size W w' :=
 h.bel.grown hg (Nat.le_of_lt h.lt) (fun k hk => by injection hk with hk; rw [← hk]; exact Nat.le_refl _)
section
variable {ops : Array Oper} {Q : Exit → Act → World → Prop} {n : Nat} {l fixed : List (Nat × Value)} {F : World → Prop} {es : List EntC} {i s : Nat} {o : Oper}
theorem kC {f : FuncId} {xs : Array Operand} {ats : Array TypeId} {t : EntC} (ho : ops[t.op]? = some o) (hp : o.op = .call { callee := .value (.func f), args := xs, argTypes := ats }) (hd : o.dst = some t.slot) (hg : okG ops (fixed ++ knownE (afts ops t.op) es) o = true)
  (hc : ∀ a w, Has a n (fixed ++ knownE (afts ops t.op) es) → KnownR (afts ops t.op) a w es → F w → ∃ vs : List Value, xs.toList.map a.eval = vs ∧ Calls Tryz.prog f vs.toArray w fun e w' => ∃ v, e = .returned v ∧ (t.e.p v w' ∧ Below w.heap.size w w'))
  (hen : ∀ (args : Array Value) (w : World), (callFunc f args).run Tryz.prog w = .ok (.enter f args) w := by exact fun _ _ => by kernel_rfl) : HeavyE ops Q n fixed F es t := kc hc ho hp hd hg hen
end
theorem mayB_of' {m : Mq} {b : Bool} (h : mayBb m = b) (hb : b = true := by rfl) : mayB m := (mayBb_iff m).1 (h.trans hb)
theorem belowQ {P : Program} {f : FuncId} {args : Array Value} {w : World} {b b' : Bool} (h : Calls P f args w fun e w' => e = .returned (.bool b) ∧ w = w') (hb : b = b') : Calls P f args w fun e w' => ∃ v, e = .returned v ∧ (v = .bool b' ∧ Below w.heap.size w w') :=
 h.mono fun _ _ ⟨h1, h2⟩ => ⟨_, h1, by rw [hb], h2 ▸ Below.refl _ _⟩
theorem packetC (B g : Nat) (s : Rd) (k : Nat) (f : UInt8) (hs : s.1.length ≤ 1000000) (r : Mq × Rd) (hr : readP (k : Int) f s = r) (w : World) (hR : RdAt w B g s) :
  Calls Tryz.prog 122 #[.pointer (some ⟨g, 0, none⟩), .int .i64 (k : Int), .int .i64 (f.toNat : Int)] w fun e w' => ∃ v, e = .returned v ∧ ((∃ vc vw vf, v = .agg (mqCells r.1 vc vw vf).toArray ∧ Rows3 w' w.heap.size r.1 vc vw vf) ∧ RdAt w' B g r.2 ∧ w.grownBy w' (some g)) := by
 subst hr
 refine (packPacket B g s k f hs w hR).mono ?_
 rintro e w' ⟨vc, vw, vf, rfl, h1, h2, h3⟩
 exact ⟨_, rfl, ⟨vc, vw, vf, rfl, h3⟩, h1, h2⟩
theorem Rows3.base {w : World} {b b' : Nat} {m : Mq} {vc vw vf : Value} (h : Rows3 w b m vc vw vf) (hb : b' ≤ b) : Rows3 w b' m vc vw vf := ⟨own_base h.1 hb, own_base h.2.1 hb, own_base h.2.2 hb⟩
theorem parse_err (xs : List UInt8) (A : Option Addr) (c : Nat) (w : World) (hr : RB w w.heap.size A xs) (hl : xs.length ≤ 140737488351232) (er : Int) (hs : sizeD xs = .error er) :
  Calls Tryz.prog 95 #[.slice A xs.length c] w (ParseSaid xs w) := by
 have her : (er != 0) = true := sizeD_err hs
 go_enter Tryz.func95, Tryz.ntmps95
 refine Has.start 56 [(0, .slice A xs.length c)] rfl rfl ⟨rfl, trivial⟩ ?_
 intro a0 H0
 have O0 := Own.start w
 refine rl ?_
 refine H0.al O0 2 zero_mq fun a3 w1 O1 H3 => nt ?_
 refine H3.rg 1 fun a4 H4 => ?_
 refine H4.cq 1 (sizeC xs A c (.error er) hs _ (hr.next O1.bel) hl) fun a6 H6 => ?_
 refine H6.ex (r := .int .i64 0) 0 fun a7 H7 => ?_
 refine H7.ex (r := .int .i64 0) 0 fun a8 H8 => ?_
 refine H8.ex (r := .int .i64 er) 3 fun a12 H12 => nt ?_
 refine H12.rg 1 fun a13 H13 => ?_
 refine H13.bn 0 (neq_35 _ _ true her _ _ _) fun a14 H14 => nt ?_
 refine H14.condT rfl ?_
 refine rl ?_
 refine H14.any (w' := w1) gz rfl rfl (.agg (mqCells (mq0 0) nilV nilV nilV).toArray) (by intro cs b h; cases h) (by kernel_rfl) (by kernel_rfl) ?_
 intro a15 H15
 refine H15.ms 1 fun a16 H16 => ?_
 refine H16.st O1 0 2 (hi := size_mq) fun a19 w2 O2 H19 => nt ?_
 refine wp_ret ?_
 repeat (first | (with_reducible refine block_ret ?_) | (with_reducible refine then_ret ?_))
 refine bodyPost_ret (results_m2 Tryz.results95 _ (H19.at_ 2 _ rfl) (H19.at_ 3 _ rfl) (H19.at_ 4 _ rfl) (O2.get 0 rfl) Tryz.underlying49 rfl size_mq rfl) H19.df ?_
 exact ⟨mq0 0, 0, er, nilV, nilV, nilV, parsed_err hs, rfl, none_rows _ _ 0, small0 0, O2.bel⟩
theorem parse_good (xs : List UInt8) (A : Option Addr) (c : Nat) (hc : xs.length ≤ c) (w : World) (hr : RB w w.heap.size A xs) (hl : xs.length ≤ 140737488351232) (hT : Wd w) (t i : Nat) (hs : sizeD xs = .ok (t, i)) (r : Mq × Rd) (hrd : r = readP (((xs.headD 0).toNat / 16 : Nat) : Int) (loB (xs.headD 0)) ((xs.take t).drop i, false)) :
  Calls Tryz.prog 95 #[.slice A xs.length c] w (ParseSaid xs w) := by
 have hg := sizeD_ge hs
 obtain ⟨gb, go, x, hA, hgb, hx, hcell⟩ := RB.get hr (k := 0) (by omega)
 subst hA
 rw [Nat.add_zero] at hcell
 have hx0 : xs.headD 0 = x := head_of hx
 rw [hx0] at hrd
 have hxb := x.toNat_lt
 have hyl : ((xs.take t).drop i).length = t - i := by simp; omega
 have hys : ((xs.take t).drop i, false).1.length ≤ 1000000 := by show ((xs.take t).drop i).length ≤ _; omega
 have hsm : Small r.1 := by rw [hrd]; exact small_readP _ _ _ hys
 have hln : Lens r.1 1000001 := by rw [hrd]; exact lens_readP _ _ _ hys
 have hP := parsed_readP hs r (by rw [hx0]; exact hrd)
 go_enter Tryz.func95, Tryz.ntmps95
 refine Has.start 56 [(0, .slice (some ⟨gb, go, none⟩) xs.length c)] rfl rfl ⟨rfl, trivial⟩ ?_
 intro a0 H0
 have O0 := Own.start w
 refine rl ?_
 refine H0.al O0 2 zero_mq fun a3 w1 O1 H3 => nt ?_
 refine H3.rg 1 fun a4 H4 => ?_
 refine H4.cq 1 (sizeC xs _ c (.ok (t, i)) hs _ (hr.next O1.bel) hl) fun a6 H6 => ?_
 refine H6.ex (r := .int .i64 (t : Int)) 0 fun a7 H7 => ?_
 refine H7.ex (r := .int .i64 (i : Int)) 0 fun a8 H8 => ?_
 refine H8.ex (r := .int .i64 0) 3 fun a12 H12 => nt ?_
 refine H12.rg 1 fun a13 H13 => ?_
 refine H13.bn 0 (neq_35 _ _ false rfl _ _ _) fun a14 H14 => nt ?_
 refine H14.condF rfl ?_
 refine skip_wp ?_
 refine then_normal ?_
 refine H14.rg 3 fun a17 H17 => ?_
 refine H17.go gz rfl rfl _ (run_slice rfl (H17.ev rfl) (H17.ev rfl) (H17.ev rfl) (slice_lh _ _ _ _ _ hg.2.1 hg.2.2.1 hc _)) ?_
 intro a18 H18
 refine H18.any (w' := w1) gz rfl rfl (.agg ([.slice (if c = i then (some ⟨gb, go, none⟩ : Option Addr) else (some ⟨gb, go, none⟩ : Option Addr).map (·.add i)) (t - i) (c - i), .bool false] : List Value).toArray) (by intro cs b h; cases h) (by kernel_rfl) (by kernel_rfl) ?_
 intro a19 H19
 refine H19.bx O1 1 fun a21 w2 O2 H21 => nt ?_
 obtain ⟨g6, hg6⟩ : ∃ g6, g6 = w1.heap.size := ⟨_, rfl⟩
 have hR : RdAt w2 w.heap.size g6 ((xs.take t).drop i, false) := RdAt.of hyl (by omega) (hg6 ▸ (O2.get 0 rfl).get 0 _ rfl) (hg6 ▸ (O2.get 0 rfl).get 1 _ rfl) (hg6 ▸ (O2.get 0 rfl).fr 0 rfl) (hg6 ▸ (O2.get 0 rfl).fr 1 rfl) ((((hr.below O2.bel).take t).cut (by simp; omega) (by simp; omega))) (hg6 ▸ O2.ge 0 rfl) (hg6 ▸ O2.lt 0 rfl)
 have H22 := H21.kp [0, 2, 3, 6]
 have hM : ParMid w g6 ((xs.take t).drop i, false) w2 := ⟨O2.bel, hR, O2.get 1 rfl, O2.lt 1 rfl, (by rw [hg6]; exact Nat.ne_of_lt (O1.lt 0 rfl))⟩
 rw [← hg6] at H22
 refine H22.sg (ParMid w g6 ((xs.take t).drop i, false)) hM.drew [0, 2, 3, 6] [ec 0 23 (.pointer (some ⟨g6, 0, none⟩)), ec 1 24 (.slice (some ⟨gb, go, none⟩) xs.length c), ec 2 25 (.pointer (some ⟨gb, go, none⟩)), ec 3 26 (.int .u8 (x.toNat : Int)), ec 4 27 (.int .u8 ((x.toNat / 16 : Nat) : Int)), ec 5 28 (.int .i64 ((x.toNat / 16 : Nat) : Int)), ec 6 29 (.slice (some ⟨gb, go, none⟩) xs.length c), ec 7 30 (.pointer (some ⟨gb, go, none⟩)), ec 8 31 (.int .u8 (x.toNat : Int)), ec 9 32 (.int .u8 ((loB x).toNat : Int)), ec 10 33 (.int .i64 ((loB x).toNat : Int))] rfl ?_
 refine St.call 11 ⟨jm, jm, jI rfl rfl rfl rfl rfl rfl fun w => index_0 _ _ _ _ (by omega) w, jl fun _ h => load1_u _ _ _ _ ((cellB h.bel hgb).trans hcell), jb fun _ => shr4_u x _ _ _, jc fun _ => conv_58 _ (by omega) _, jm, jI rfl rfl rfl rfl rfl rfl fun w => index_0 _ _ _ _ (by omega) w, jl fun _ h => load1_u _ _ _ _ ((cellB h.bel hgb).trans hcell), jb fun _ => and15_u x _ _ _, jc fun _ => conv_58 _ (loB x).toNat_lt _, trivial⟩ (fun wy h => packetC w.heap.size g6 _ _ _ hys r hrd.symm wy h.rd) ?_
 rintro wy _ wz h ⟨⟨vc, vw, vf, rfl, hrows⟩, hrd', hgr⟩
 refine nx (fun w' => ParMid w g6 r.2 w' ∧ Rows3 w' (w.heap.size + 1) r.1 vc vw vf) [] [] ⟨h.call hrd' hgr, hrows.base h.lt⟩ ?_
 refine St.sto 12 trivial ?_
 intro a wu H _ h
 obtain ⟨w', hr', hg', hs', hC'⟩ := h.1.box.sto (L := mqCells r.1 vc vw vf) size_mq rfl rfl (mq_one _ (own_one h.2.1) (own_one h.2.2.1) (own_one h.2.2.2))
 refine ⟨w', run_store rfl (H.ev rfl) (H.ev rfl) hr', nx0 (ParSix w g6 r vc vw vf) [] [] ((h.1.fin h.2 hg' hs' hC').six hln) ?_⟩
 refine St.fin trivial ?_
 intro a23 w3 H23 _ hF
 obtain ⟨b1, e1⟩ : ∃ b, r.2.2 = b := ⟨_, rfl⟩
 obtain ⟨b2, e2⟩ : ∃ b, mayBb r.1 = b := ⟨_, rfl⟩
 obtain ⟨b3, e3⟩ : ∃ b, decide (layB r.1 = xs.take t) = b := ⟨_, rfl⟩
 replace H23 := H23.kp [0, 2, 3, 6]
 refine then_normal (H23.dq (ParSix w g6 r vc vw vf) (fun _ _ h hb => h.call hb) hF [0, 2, 3, 6] rfl [ec 0 35 (.pointer (some ⟨g6, 0, none⟩)), ec 1 36 (.pointer (some ⟨g6, 0, none⟩)), ec 2 37 (.pointer (some ⟨g6, 1, none⟩)), ec 3 38 (.bool b1), ec 4 39 (.bool b1), ec 5 40 (gv (!b1) ((.agg (mqCells r.1 vc vw vf).toArray))), eh 6 41 (gv (!b1) (.bool b2)), ec 7 42 (gv (!b1) (.bool (!b2))), ec 8 43 (.bool (b1 || (!b2))), ec 9 44 (.bool (b1 || (!b2))), ec 10 45 (gv (!(b1 || (!b2))) ((.agg (mqCells r.1 vc vw vf).toArray))), er 11 46 [] (fun v w' => b1 = false → b2 = true → BytesAre (layB r.1) v w'), ec 12 47 (gv (!(b1 || (!b2))) ((.slice (some ⟨gb, go, none⟩) xs.length c))), ec 13 48 (gv (!(b1 || (!b2))) (.int .i64 (t : Int))), ec 14 49 (gv (!(b1 || (!b2))) ((.slice (some ⟨gb, go, none⟩) t c))), eh 15 50 (gv (!(b1 || (!b2))) (.bool b3)), ec 16 51 (gv (!(b1 || (!b2))) (.bool (!b3))), ec 17 52 (.bool ((b1 || (!b2)) || (!b3)))] rfl ⟨jm, ja fun _ => by kernel_rfl, jf fieldX87_1, jl fun _ h => load1_b _ _ _ _ (e1 ▸ h.bad), jm, (by cases b1; exact jl fun _ h => loadS_run h.box; exact jo), (by cases b1; exact ju (hq := run_not b2); exact jo), (by (cases b1 <;> exact jp)), jm, (by cases b1; rotate_left; exact jo; cases b2; exact jo; exact jl fun _ h => loadS_run h.box), (by cases b1; rotate_left; exact jo; cases b2; exact jo; exact jm), (by cases b1; rotate_left; exact jo; cases b2; exact jo; exact jm), (by cases b1; rotate_left; exact jo; cases b2; exact jo; exact jh fun w => slice_h _ _ _ _ hg.2.2.1 hc w), (by cases b1; rotate_left; exact jo; cases b2; exact jo; exact ju (hq := run_not b3)), (by cases b1; rotate_left; exact jp; (cases b2 <;> exact jp)), trivial⟩ ⟨(by cases b1; exact kb fun w' h => e2 ▸ packMay r.1 _ _ _ w' h.lists hsm.fit (hT.below h.bel); exact ko), (by cases b1; rotate_left; exact kor fun _ h h2 => (by first | (cases h; done) | (cases h2; done)); cases b2; exact kor fun _ h h2 => (by first | (cases h; done) | (cases h2; done)); exact kr fun w' h => (packLay r.1 _ _ _ w' (mayB_of' e2) h.lists).mono fun _ _ ⟨v, h1, h2, h3⟩ => ⟨v, h1, fun _ _ => h2.read, h3⟩), (by cases b1; rotate_left; exact ko; cases b2; exact ko; exact kC rfl rfl rfl rfl fun a w' H hk h => ⟨[a.eval (.tmp 46), .slice (some ⟨gb, go, none⟩) t c], congrArg (fun v => [a.eval (.tmp 46), v]) (H.ev (x := .tmp 49) rfl), (belowQ (bytesEq (layB r.1) (xs.take t) (a.eval (.tmp 46)) _ w' (hk.1 rfl rfl) ⟨_, _, (by rw [List.length_take, Nat.min_eq_left hg.2.2.1]), ((hr.below h.bel).take t).more h.bel.size⟩) e3)⟩), trivial⟩ ?_ (hst := ⟨fun _ _ _ hb h h1 h2 => (h h1 h2).below hb, trivial⟩))
 intro a24 w4 H24 _ hF
 refine then_normal (H24.cond (t := (b1 || !b2) || !b3) rfl ?_)
 cases hb : (b1 || !b2) || !b3 with
 | true =>
  refine rl ?_
  refine H24.any (w' := w4) gz rfl rfl (.agg (mqCells (mq0 0) nilV nilV nilV).toArray) (by intro cs b h; cases h) (by kernel_rfl) (by kernel_rfl) fun a25 H25 => ?_
  refine H25.storeS rfl rfl rfl rfl (L := mqCells (mq0 0) nilV nilV nilV) rfl hF.box size_mq rfl rfl rfl fun a26 w5 H26 hg' hs' hC => ?_
  refine H26.ms 2 fun a27 H27 => nt (wp_ret ?_)
  repeat (first | (with_reducible refine block_ret ?_) | (with_reducible refine then_ret ?_))
  refine bodyPost_ret (results_m2 Tryz.results95 _ (H27.at_ 2 _ rfl) (H27.at_ 3 _ rfl) (H27.at_ 4 _ rfl) hC Tryz.underlying49 rfl size_mq rfl) H27.df ?_
  exact ⟨mq0 0, 0, 1, nilV, nilV, nilV, hP.2 (fun h => by rw [← e1, ← e2, ← e3, h.1, (mayBb_iff _).2 h.2.1, decide_eq_true h.2.2] at hb; cases hb), rfl, none_rows _ _ 0, small0 0, hF.belK hg' hs'⟩
 | false =>
  simp only [Bool.or_eq_false_iff, Bool.not_eq_false'] at hb
  refine skip_wp (then_normal ?_)
  refine rl ?_
  refine H24.loadS rfl rfl rfl rfl rfl hF.box Tryz.underlying49 rfl size_mq rfl fun a25 H25 => ?_
  refine H25.ms 1 fun a26 H26 => ?_
  refine H26.storeS rfl rfl rfl rfl rfl hF.box size_mq rfl rfl hF.one fun a27 w5 H27 hg' hs' hC => ?_
  refine H27.ms 2 fun a29 H29 => nt (wp_ret ?_)
  repeat (first | (with_reducible refine block_ret ?_) | (with_reducible refine then_ret ?_))
  refine bodyPost_ret (results_m2 Tryz.results95 _ (H29.at_ 2 _ rfl) (H29.at_ 3 _ rfl) (H29.at_ 4 _ rfl) hC Tryz.underlying49 rfl size_mq rfl) H29.df ?_
  exact ⟨r.1, t, 0, vc, vw, vf, hP.1 ⟨e1.trans hb.1.1, (mayBb_iff _).1 (e2.trans hb.1.2), of_decide_eq_true (e3.trans hb.2)⟩, rfl, hF.keep hg' hs', hsm, hF.belK hg' hs'⟩
theorem packParse (xs : List UInt8) (A : Option Addr) (c : Nat) (hc : xs.length ≤ c) (w : World) (hr : RB w w.heap.size A xs) (hl : xs.length ≤ 140737488351232) (hT : Wd w) :
  Calls Tryz.prog 95 #[.slice A xs.length c] w (ParseSaid xs w) := by
 cases hs : sizeD xs with
 | error er => exact parse_err xs A c w hr hl er hs
 | ok p =>
  obtain ⟨t, i⟩ := p
  obtain ⟨r, hrd⟩ : ∃ r, r = readP (((xs.headD 0).toNat / 16 : Nat) : Int) (loB (xs.headD 0)) ((xs.take t).drop i, false) := ⟨_, rfl⟩
  exact parse_good xs A c hc w hr hl hT t i hs r hrd
theorem parseC (xs : List UInt8) (A : Option Addr) (c : Nat) (hc : xs.length ≤ c) (w : World) (hr : RB w w.heap.size A xs) (hl : xs.length ≤ 140737488351232) (hT : Wd w) :
  Calls Tryz.prog 95 #[.slice A xs.length c] w fun e w' => ∃ v, e = .returned v ∧ ∃ m n er vc vw vf, v = .tuple #[.agg (mqCells m vc vw vf).toArray, .int .i64 ((n : Nat) : Int), .int .i64 er] ∧ Parsed xs m n er ∧ (Rows3 w' w.heap.size m vc vw vf ∧ Lens m 1000001) ∧ Small m ∧ Below w.heap.size w w' :=
 (packParse xs A c hc w hr hl hT).mono fun _ _ ⟨m, n, er, vc, vw, vf, h1, h2, h3⟩ => ⟨_, h2, m, n, er, vc, vw, vf, rfl, h1, h3⟩
theorem MqL.ones {w : World} {B : Nat} {m : Mq} {vc vw vf : Value} (h : MqL w B m vc vw vf) : (mqCells m vc vw vf).all (·.oneCell') = true := by
 obtain ⟨A1, c1, A2, c2, A3, c3, rfl, rfl, rfl, _⟩ := h
 exact mq_one _ rfl rfl rfl
end
section
open Go.RowKit
section
variable {ops : Array Oper} {Q : Exit → Act → World → Prop} {n : Nat} {l fixed : List (Nat × Value)} {F : World → Prop} {es : List EntC} {i s : Nat} {o : Oper}
end
section
variable {w w' : World}
theorem Rows3.belowR {b : Nat} {m : Mq} {vc vw vf : Value} (h : Rows3 w b m vc vw vf) (hb : Below w.heap.size w w') : Rows3 w' b m vc vw vf := ⟨own_below h.1 hb, own_below h.2.1 hb, own_below h.2.2 hb⟩
end
def Far (g : Nat) (vc vw vf : Value) : Prop := some g ≠ vc.ownBlock ∧ some g ≠ vw.ownBlock ∧ some g ≠ vf.ownBlock
section
variable {w w' : World}
theorem Rows3.keptR {b g : Nat} {m : Mq} {vc vw vf : Value} (h : Rows3 w b m vc vw vf) (hg : w.grownBy w' (some g)) (hf : Far g vc vw vf) : Rows3 w' b m vc vw vf :=
 ⟨h.1.kept hg (.inr hf.1.symm), h.2.1.kept hg (.inr hf.2.1.symm), h.2.2.kept hg (.inr hf.2.2.symm)⟩
theorem Rows3.far {b g : Nat} {m : Mq} {vc vw vf : Value} (h : Rows3 w b m vc vw vf) (hg : g < b ∨ w.heap.size ≤ g) : Far g vc vw vf := ⟨own_ne h.1 hg, own_ne h.2.1 hg, own_ne h.2.2 hg⟩
end
end
section
open Go.RowKit
theorem zeroCells_u8 (k : Nat) : (Builtin.zeroCells #[Value.int .u8 0] k).size = k := by
 simp [Builtin.zeroCells]
theorem growW (n : Nat) (w : World) (hn : n ≤ 100000) :
  Calls Tryz.prog 120 #[.slice none 0 0, .int .i64 (n : Int)] w fun e w' => ∃ A c, e = .returned (.slice A 0 c) ∧ w'.ownsRow w.heap.size 5 1 (.slice A 0 c) 0 [] ∧ Below w.heap.size w w' := by
 rcases Nat.eq_zero_or_pos n with rfl | hp
 ·go_enter Tryz.func120, Tryz.ntmps120
  go_wp2
  go_ret
  exact ⟨none, 0, rfl, World.ownsRow_nil _ _ _ _, Below.refl _ _⟩
 ·have h1 : ¬ ((n : Int) < 0) := by omega
  have h4 : (n : Int) > 0 := by omega
  obtain ⟨i, hi0, hz0, hz1, hz2⟩ := info_parts (P := Tryz.prog) info_u8
  have hold : (Builtin.firstCells i.size 0 (.slice none 0 0)).run Tryz.prog w.drew = .ok ([] : List Value).toArray w.drew := run_firstCells_none w.drew i.size 0 0 0
  have hrz : ∀ ty, (Builtin.append_ #[31, 3] ty #[.slice none 0 0, .int .i64 (n : Int)]).run Tryz.prog w =
    .ok (.slice (some ⟨w.heap.size, 0, none⟩) (0 + n) (grownCap w (0 + n) 0 5)) (w.drew.alloc (.cells (([] : List Value).toArray ++ Builtin.zeroCells #[.int .u8 0] n ++ Builtin.zeroCells #[.int .u8 0] (grownCap w (0 + n) 0 5 - (0 + n))) 5)) := fun ty =>
   Lib.run_append_grow_zeros w 31 3 ty 5 i (.int .u8 0) .i64 .i64 Tryz.underlying31 Tryz.underlying3 hi0 hz0 none 0 0 [] hold n hp (by omega) (by omega) (by omega) (by rw [hz2]; omega) (growslice_fits (by omega) (by rw [hz2]; omega))
  obtain ⟨G, hG⟩ : ∃ G, G = grownCap w (0 + n) 0 5 := ⟨_, rfl⟩
  have hGn : 0 + n ≤ G := hG ▸ grownCap_ge w _ _ _
  have hGm : G ≤ maxLen := hG ▸ grownCap_le_maxLen w _ _ _ (by unfold maxLen; omega)
  rw [← hG] at hrz
  have hsz : (([] : List Value).toArray ++ Builtin.zeroCells #[.int .u8 0] n ++ Builtin.zeroCells #[.int .u8 0] (G - (0 + n))).size = G * 1 := by
   rw [Array.size_append, Array.size_append, zeroCells_u8, zeroCells_u8]
   simp
   omega
  obtain ⟨C, hC⟩ : ∃ C, C = ([] : List Value).toArray ++ Builtin.zeroCells #[.int .u8 0] n ++ Builtin.zeroCells #[.int .u8 0] (G - (0 + n)) := ⟨_, rfl⟩
  rw [← hC] at hrz hsz
  have hO : (w.drew.alloc (.cells C 5)).ownsRow w.heap.size 5 1 (.slice (some ⟨w.heap.size, 0, none⟩) 0 G) 0 [] := World.ownsRow_made w.drew C G (Nat.le_refl _) hGm hsz
  have hB : Below w.heap.size w (w.drew.alloc (.cells C 5)) := (Below.drew (Below.refl _ _)).alloc (Nat.le_refl _) _
  have hG63 : G ≤ 9223372036854775807 := by unfold maxLen at hGm; omega
  have HO := Lib.hid hO
  have HB := Lib.hid hB
  clear hold hG hsz hC hO hB
  go_enter Tryz.func120, Tryz.ntmps120
  go_wp2_with (at_builtin; refine Lib.wpList_append_run _ rfl _ _ _ _ rfl _ _ rfl rfl _ _ (hrz _) ?_)
  all_goals (go_ret; exact ⟨_, _, rfl, HO.out, HB.out⟩)
theorem concatW (r x : List UInt8) (Ar Ax : Option Addr) (cr cx g : Nat) (w : World) (hr : RB w w.heap.size Ar r) (hx : RB w w.heap.size Ax x) (hg : g < w.heap.size) (hc0 : w.cell? ⟨g, 0, none⟩ = some (.slice Ar r.length cr)) (hc1 : w.cell? ⟨g, 1, none⟩ = some (.slice Ax x.length cx)) (hlr : r.length ≤ 40000) (hlx : x.length ≤ 40000) :
  Calls Tryz.prog 94 #[.slice (some ⟨g, 0, none⟩) 2 2] w fun e w' => ∃ A c, e = .returned (.slice A (r.length + x.length) c) ∧ w'.ownsRow w.heap.size 5 1 (.slice A (r.length + x.length) c) (r.length + x.length) ((r ++ x).map bv) ∧ Below w.heap.size w w' := by
 obtain ⟨lr, elr⟩ : ∃ k, k = r.length := ⟨_, rfl⟩
 obtain ⟨lx, elx⟩ : ∃ k, k = x.length := ⟨_, rfl⟩
 obtain ⟨ls, els⟩ : ∃ k, k = lr + lx := ⟨_, rfl⟩
 rw [← elr] at hc0 hlr ⊢
 rw [← elx] at hc1 hlx ⊢
 rw [← els]
 have hs1 : IntKind.i64.wrap (0 + (lr : Int)) = (lr : Int) := by rw [IntKind.wrap_i64]; omega
 have hs2 : IntKind.i64.wrap ((lr : Int) + (lx : Int)) = (ls : Int) := by rw [IntKind.wrap_i64]; omega
 have hn1 : ¬ ((lr : Int) < 0) := by omega
 have hn2 : ¬ ((ls : Int) < 0) := by omega
 have hls : ls ≤ 100000 := by omega
 have el1 := Lib.hid (elr.symm : r.length = lr)
 have el2 := Lib.hid (elx.symm : x.length = lx)
 have el3 := Lib.hid els
 have HC := Lib.hid (And.intro hc0 hc1)
 have HR := Lib.hid (And.intro hr hx)
 clear elr elx els hr hx
 go_enter Tryz.func94, Tryz.ntmps94
 go_wp2
 go_loopw [3, 5, 11] (fun s _ i wr => wr = w ∧ ((i = .int .i64 0 ∧ s = .int .i64 0) ∨ (i = .int .i64 1 ∧ s = .int .i64 (lr : Int)) ∨ (i = .int .i64 2 ∧ s = .int .i64 (ls : Int))))
  (fun _ _ i _ => 2 - (intOf i).toNat)
 case atStart => exact ⟨rfl, .inl ⟨rfl, rfl⟩⟩
 case round =>
  obtain ⟨rfl, hrel⟩ := hrel
  rcases hrel with ⟨rfl, rfl⟩ | ⟨rfl, rfl⟩ | ⟨rfl, rfl⟩
  ·go_wp2
   go_roundw
   case rel => exact ⟨trivial, .inr (.inl ⟨by go_num, by go_num⟩)⟩
   case measure => simp [intOf]
  ·go_wp2
   go_roundw
   case rel => exact ⟨trivial, .inr (.inr ⟨by go_num, by go_num⟩)⟩
   case measure => simp [intOf]
  ·obtain ⟨wq, rfl⟩ : ∃ wq : World, wq = wr := ⟨_, rfl⟩
   clear hc0 hc1 hs1 hs2 hn1 hn2
   go_wp2_with fail
   refine (growW ls wq hls).mono ?_
   rintro e w1 ⟨A1, c1, rfl, hO1, hB1⟩
   have HO1 := Lib.hid hO1
   have HB1 := Lib.hid hB1
   clear hO1 hB1
   go_wp2
   go_loopw [6, 8, 27] (fun s _ i wr => ∃ (A : Option Addr) (n c : Nat) (ys : List UInt8), s = .slice A n c ∧ wr.ownsRow wq.heap.size 5 1 (.slice A n c) n (ys.map bv) ∧ Below wq.heap.size wq wr ∧ ((i = .int .i64 0 ∧ n = 0 ∧ ys = []) ∨ (i = .int .i64 1 ∧ n = lr ∧ ys = r) ∨ (i = .int .i64 2 ∧ n = ls ∧ ys = r ++ x)))
    (fun _ _ i _ => 2 - (intOf i).toNat)
   case atStart => exact ⟨A1, 0, c1, [], rfl, HO1.out, HB1.out, .inl ⟨rfl, rfl, rfl⟩⟩
   case round =>
    obtain ⟨A, n, c, ys, rfl, hO, hB, hrel⟩ := hrel
    have HO := Lib.hid hO
    have HB := Lib.hid hB
    have h0 : wr.cell? ⟨g, 0, none⟩ = some (.slice Ar lr cr) := (cellB hB hg).trans HC.out.1
    have h1 : wr.cell? ⟨g, 1, none⟩ = some (.slice Ax lx cx) := (cellB hB hg).trans HC.out.2
    have hbs := hB.size
    clear hO hB
    rcases hrel with ⟨rfl, rfl, rfl⟩ | ⟨rfl, rfl, rfl⟩ | ⟨rfl, rfl, rfl⟩
    ·go_wp2_with (at_builtin; refine wpList_append_bytes wq.heap.size HB.out rfl _ _ 31 rfl wq.heap.size 5 Tryz.underlying31 info_u8 _ _ [] (by exact rfl) HO.out Ar lr cr r el1.out (by exact rfl) (HR.out.1.next HB.out) (by omega) hbs (Nat.le_refl _) ?_; intro A' c' w' hown' hb')
     go_roundw
     case rel => exact ⟨A', lr, c', r, by simp only, by simpa using hown', hb', .inr (.inl ⟨by go_num, rfl, rfl⟩)⟩
     case measure => simp [intOf]
    ·go_wp2_with (at_builtin; refine wpList_append_bytes wq.heap.size HB.out rfl _ _ 31 rfl wq.heap.size 5 Tryz.underlying31 info_u8 _ _ ys (by exact rfl) HO.out Ax lx cx x el2.out (by exact rfl) (HR.out.2.next HB.out) (by omega) hbs (Nat.le_refl _) ?_; intro A' c' w' hown' hb')
     go_roundw
     case rel => exact ⟨A', ls, c', ys ++ x, by rw [el3.out], by rw [el3.out]; exact hown', hb', .inr (.inr ⟨by go_num, rfl, rfl⟩)⟩
     case measure => simp [intOf]
    ·go_wp2
     go_ret
     exact ⟨A, c, rfl, HO.out, HB.out⟩
end
section
open Go.RowKit
inductive Fed : List UInt8 → List Mq → List UInt8 → Int → Prop
 | done : Fed [] [] [] 0
 | part {x : List UInt8} {m : Mq} {n : Nat} (hx : x ≠ []) (h : Parsed x m n 7) : Fed x [] x 0
 | bad {x : List UInt8} {m : Mq} {n : Nat} {e : Int} (hx : x ≠ []) (h : Parsed x m n e) (h0 : e ≠ 0) (h7 : e ≠ 7) : Fed x [] [] e
 | one {x : List UInt8} {m : Mq} {n : Nat} {l : List Mq} {y : List UInt8} {e : Int} (hx : x ≠ []) (h : Parsed x m n 0) (hr : Fed (x.drop n) l y e) : Fed x (m :: l) y e
theorem fed_one {x : List UInt8} {l : List Mq} {y : List UInt8} {e : Int} (h : Fed x l y e) : ∀ {l' : List Mq} {y' : List UInt8} {e' : Int}, Fed x l' y' e' → l = l' ∧ y = y' ∧ e = e' := by
 induction h with
 | done =>
  intro l' y' e' h'
  cases h' with
  | done => exact ⟨rfl, rfl, rfl⟩
  | part hx => exact absurd rfl hx
  | bad hx => exact absurd rfl hx
  | one hx => exact absurd rfl hx
 | part hx h =>
  intro l' y' e' h'
  cases h' with
  | done => exact absurd rfl hx
  | part => exact ⟨rfl, rfl, rfl⟩
  | bad _ h2 h0 h7 => exact absurd (parsed_one h h2).2.2.symm h7
  | one _ h2 => exact absurd (parsed_one h h2).2.2 (by decide)
 | bad hx h h0 h7 =>
  intro l' y' e' h'
  cases h' with
  | done => exact absurd rfl hx
  | part _ h2 => exact absurd (parsed_one h h2).2.2 h7
  | bad _ h2 => exact ⟨rfl, rfl, (parsed_one h h2).2.2⟩
  | one _ h2 => exact absurd (parsed_one h h2).2.2 h0
 | one hx h _ ih =>
  intro l' y' e' h'
  cases h' with
  | done => exact absurd rfl hx
  | part _ h2 => exact absurd (parsed_one h h2).2.2 (by decide)
  | bad _ h2 h0 => exact absurd (parsed_one h h2).2.2.symm h0
  | one _ h2 hr2 =>
   obtain ⟨rfl, rfl, _⟩ := parsed_one h h2
   obtain ⟨rfl, rfl, rfl⟩ := ih hr2
   exact ⟨rfl, rfl, rfl⟩
theorem parsed_two {x : List UInt8} {m : Mq} {n : Nat} (h : Parsed x m n 0) : 2 ≤ n ∧ n ≤ x.length := by
 unfold Parsed at h
 split at h
 ·next er hs =>
  have h2 := sizeD_err hs
  rw [← h.1] at h2
  exact absurd h2 (by decide)
 ·next t i hs =>
  obtain ⟨h1, h2, h3, _⟩ := sizeD_ge hs
  rcases h with ⟨_, _, rfl, _⟩ | ⟨_, _, _, h⟩
  ·exact ⟨by omega, h3⟩
  ·exact absurd h (by decide)
def Prow (w : World) (b : Nat) (m : Mq) (cs : List Value) (hi : Nat) : Prop := ∃ vc vw vf, cs = mqCells m vc vw vf ∧ Rows3 w b m vc vw vf ∧ (∀ k, (vc.ownBlock = some k ∨ vw.ownBlock = some k ∨ vf.ownBlock = some k) → k < hi) ∧ Lens m 1000001 ∧ Small m
inductive Prows (w : World) (b : Nat) : List Mq → List Value → Nat → Prop
 | nil {hi : Nat} (h : b ≤ hi) : Prows w b [] [] hi
 | snoc {l : List Mq} {xs : List Value} {m : Mq} {cs : List Value} {hi lo hi' : Nat} (h : Prows w b l xs hi) (hlo : hi ≤ lo) (hle : lo ≤ hi') (hm : Prow w lo m cs hi') : Prows w b (l ++ [m]) (xs ++ cs) hi'
theorem Prow.of {w w' : World} {b hi : Nat} {m : Mq} {cs : List Value} (h : Prow w b m cs hi) (hk : ∀ vc vw vf, Rows3 w b m vc vw vf → Rows3 w' b m vc vw vf) : Prow w' b m cs hi := by
 obtain ⟨vc, vw, vf, h1, h2, h3⟩ := h
 exact ⟨vc, vw, vf, h1, hk _ _ _ h2, h3⟩
theorem Prows.le {w : World} {b hi : Nat} {l : List Mq} {cs : List Value} (h : Prows w b l cs hi) : b ≤ hi := by
 induction h with
 | nil h => exact h
 | snoc _ h1 h2 _ ih => omega
theorem Prows.of {w w' : World} {b hi : Nat} {l : List Mq} {cs : List Value} (h : Prows w b l cs hi) (hk : ∀ b' m vc vw vf, b ≤ b' → Rows3 w b' m vc vw vf → Rows3 w' b' m vc vw vf) : Prows w' b l cs hi := by
 induction h with
 | nil h => exact .nil h
 | snoc hp h1 h2 hm ih => exact .snoc ih h1 h2 (hm.of fun _ _ _ h => hk _ _ _ _ _ (Nat.le_trans hp.le h1) h)
theorem Prows.next {w w' : World} {b hi : Nat} {l : List Mq} {cs : List Value} (h : Prows w b l cs hi) (hb : Below w.heap.size w w') : Prows w' b l cs hi := h.of fun _ _ _ _ _ _ h => h.belowR hb
theorem Prows.base {w : World} {b b' hi : Nat} {l : List Mq} {cs : List Value} (h : Prows w b l cs hi) (hb : b' ≤ b) : Prows w b' l cs hi := by
 induction h with
 | nil h => exact .nil (Nat.le_trans hb h)
 | snoc _ h1 h2 hm ih => exact .snoc ih h1 h2 hm
theorem Prows.box {w w' : World} {b g hi : Nat} {l : List Mq} {cs : List Value} (h : Prows w b l cs hi) (hg : w.grownBy w' (some g)) (hlt : g < b) : Prows w' b l cs hi := h.of fun _ _ _ _ _ hb h => h.keptR hg (h.far (.inl (Nat.lt_of_lt_of_le hlt hb)))
theorem Rows3.row {w w' : World} {b b' e s n : Nat} {m : Mq} {vc vw vf v : Value} {xs : List Value} (h : Rows3 w b m vc vw vf) (hO : w.ownsRow b' e s v n xs) (hg : w.grownBy w' v.ownBlock) (he : (Nat.beq 3 e || Nat.beq 161 e || Nat.beq 9 e) = false) : Rows3 w' b m vc vw vf := by
 simp only [Bool.or_eq_false_iff] at he
 exact ⟨h.1.kept hg (own_apart h.1 hO he.1.1), h.2.1.kept hg (own_apart h.2.1 hO he.1.2), h.2.2.kept hg (own_apart h.2.2 hO he.2)⟩
theorem Prows.row {w w' : World} {b b' e s n hi : Nat} {l : List Mq} {cs : List Value} {v : Value} {xs : List Value} (h : Prows w b l cs hi) (hO : w.ownsRow b' e s v n xs) (hg : w.grownBy w' v.ownBlock) (he : (Nat.beq 3 e || Nat.beq 161 e || Nat.beq 9 e) = false) : Prows w' b l cs hi := h.of fun _ _ _ _ _ _ h => h.row hO hg he
theorem Prows.len {w : World} {b hi : Nat} {l : List Mq} {cs : List Value} (h : Prows w b l cs hi) : cs.length = l.length * 24 := by
 induction h with
 | nil => rfl
 | snoc _ _ _ hm ih =>
  obtain ⟨vc, vw, vf, rfl, _⟩ := hm
  rw [List.length_append, List.length_append, ih]
  show _ + 24 = _
  simp
  omega
theorem Rows3.lt {w : World} {b : Nat} {m : Mq} {vc vw vf : Value} (h : Rows3 w b m vc vw vf) (k : Nat) (hk : vc.ownBlock = some k ∨ vw.ownBlock = some k ∨ vf.ownBlock = some k) : k < w.heap.size := by
 rcases hk with hk | hk | hk
 ·exact (h.1.lt k hk).2
 ·exact (h.2.1.lt k hk).2
 ·exact (h.2.2.lt k hk).2
def PR (w : World) (b : Nat) (l : List Mq) (cs : List Value) : Prop := ∃ hi, hi ≤ w.heap.size ∧ Prows w b l cs hi
theorem PR.base {w : World} {b b' : Nat} {l : List Mq} {cs : List Value} (h : PR w b l cs) (hb : b' ≤ b) : PR w b' l cs := by
 obtain ⟨hi, h1, h2⟩ := h
 exact ⟨hi, h1, h2.base hb⟩
theorem info_mqx : ∃ B, B ≤ 1000 ∧ (Tryz.prog.info? 49).map (fun i => (i.zero, i.size, i.bytes)) = some (some (.agg (mqCells (mq0 0) nilV nilV nilV).toArray), 24, B) :=
 ⟨((Tryz.prog.info? 49).map (·.bytes)).getD 0, Nat.le_of_ble_eq_true (by kernel_rfl), by kernel_rfl⟩
end
section
open Go.RowKit
theorem eql_35 (u v : Int) (b : Bool) (h : (u == v) = b) (x y : Operand) (w : World) : (do eqGuard .eql 27 x y (iz u) (iz v); binOp .eql 27 (iz u) (iz v) : Sem Value).run Tryz.prog w = .ok (.bool b) w := by
 subst h
 simp [go_sem]
theorem concatC (r x : List UInt8) (Ar Ax : Option Addr) (cr cx g : Nat) (w : World) (hr : RB w w.heap.size Ar r) (hx : RB w w.heap.size Ax x) (hg : g < w.heap.size) (hC : Cells w g [.slice Ar r.length cr, .slice Ax x.length cx]) (hlr : r.length ≤ 40000) (hlx : x.length ≤ 40000) :
  Calls Tryz.prog 94 #[.slice (some ⟨g, 0, none⟩) 2 2] w fun e w' => ∃ v, e = .returned v ∧ ∃ A c, v = .slice A (r ++ x).length c ∧ w'.ownsRow w.heap.size 5 1 (.slice A (r ++ x).length c) (r ++ x).length ((r ++ x).map bv) ∧ Below w.heap.size w w' :=
 (concatW r x Ar Ax cr cx g w hr hx hg (hC 0 _ rfl).1 (hC 1 _ rfl).1 hlr hlx).mono fun _ _ ⟨A, c, h1, h2, h3⟩ => ⟨_, h1, A, c, by rw [List.length_append], by rw [List.length_append]; exact h2, h3⟩
theorem cloneC (y : List UInt8) (A : Option Addr) (c : Nat) (w : World) (hx : RB w w.heap.size A y) (hn : y.length ≤ 140737488351232) :
  Calls Tryz.prog 80 #[.slice A y.length c] w fun e w' => ∃ v, e = .returned v ∧ ∃ A' c', v = .slice A' y.length c' ∧ w'.ownsRow w.heap.size 5 1 (.slice A' y.length c') y.length (y.map bv) ∧ Below w.heap.size w w' :=
 (clone y y.length rfl A c w hx hn).mono fun _ _ ⟨A', c', h1, h2, h3⟩ => ⟨_, h1, A', c', rfl, h2, h3⟩
def FedSaid (z : List UInt8) (w : World) (e : Ending) (w' : World) : Prop :=
 ∃ l left er vP AL cL cs, Fed z l left er ∧ e = .returned (.tuple #[vP, .slice AL left.length cL, iz er]) ∧ w'.ownsRow w.heap.size 49 24 vP l.length cs ∧ PR w' w.heap.size l cs ∧ w'.ownsRow w.heap.size 5 1 (.slice AL left.length cL) left.length (left.map bv) ∧ Below w.heap.size w w'
structure FeedAt (z : List UInt8) (W : World) (a : Act) (w : World) (y : List UInt8) (l : List Mq) (A : Option Addr) (c n : Nat) (vP : Value) (cs L : List Value) (vb : Value) : Prop where
 at_ : Has a 40 [(4, vP), (5, nilV), (7, pz W.heap.size), (9, .slice A n c)]
 hn : y.length = n
 hc : n ≤ c
 le : l.length * 2 + y.length ≤ z.length
 fed : ∀ {l2 : List Mq} {left : List UInt8} {e : Int}, Fed y l2 left e → Fed z (l ++ l2) left e
 own : Own W W.heap.size [(W.heap.size, L)] w
 h24 : L.length = 24
 row : w.ownsRow (W.heap.size + 1) 49 24 vP l.length cs
 pks : PR w (W.heap.size + 1) l cs
 byt : w.ownsRow (W.heap.size + 1) 5 1 vb z.length (z.map bv)
 rd : ∀ w', w'.ownsRow (W.heap.size + 1) 5 1 vb z.length (z.map bv) → RB w' w'.heap.size A y
def muFeed (a : Act) : Nat := match a.tmps.getD 9 undef with
 | .slice _ n _ => n
 | _ => 0
theorem feedW (r x : List UInt8) (Ar Ax : Option Addr) (cr cx : Nat) (w : World) (hr : RB w w.heap.size Ar r) (hx : RB w w.heap.size Ax x) (hlr : r.length ≤ 40000) (hlx : x.length ≤ 40000) (hT : Wd w) :
  Calls Tryz.prog 56 #[.slice Ar r.length cr, .slice Ax x.length cx] w (FedSaid (r ++ x) w) := by
 go_enter Tryz.func56, Tryz.ntmps56
 refine Has.start 40 [(0, .slice Ar r.length cr), (1, .slice Ax x.length cx)] rfl rfl ⟨rfl, rfl, trivial⟩ ?_
 intro a0 H0
 have O0 := Own.start w
 refine H0.rg 3 fun a1 H1 => nt ?_
 refine wp_scope_one (k := 0) rfl (fun a w' => ∃ y l A c n vP cs L vb, FeedAt (r ++ x) w a w' y l A c n vP cs L vb) (fun a _ => muFeed a) ?_ ?_
 ·intro hpass
  refine rl ?_
  refine H1.al O0 0 zero_mq fun a2 w2 O2 H2 => nt ?_
  refine H2.rg 1 fun a3 H3 => nt ?_
  refine H3.rg 2 fun a4 H4 => ?_
  refine H4.any (w' := w2.alloc (.cells #[.slice Ar r.length cr, .slice Ax x.length cx] 31)) gz rfl rfl (.slice (some ⟨w2.heap.size, 0, none⟩) 2 2) (by intro cs b h; cases h) (by kernel_rfl) (by kernel_rfl) fun a5 H5 => ?_
  have C5 := Cells.of_heap (heap_alloc_new w2 (.cells #[.slice Ar r.length cr, .slice Ax x.length cx] 31))
  have hb5 : Below w2.heap.size w2 (w2.alloc (.cells #[.slice Ar r.length cr, .slice Ax x.length cx] 31)) := balloc _ _
  have hl5 := lt_alloc w2 (.cells #[.slice Ar r.length cr, .slice Ax x.length cx] 31)
  have hw2 : w.heap.size + 1 ≤ w2.heap.size := O2.lt 0 rfl
  generalize w2.alloc (.cells #[.slice Ar r.length cr, .slice Ax x.length cx] 31) = w5 at *
  have O5 := O2.call hb5
  refine H5.cl (concatC r x Ar Ax cr cx w2.heap.size w5 (hr.next O5.bel) (hx.next O5.bel) hl5 C5 hlr hlx) ?_
  rintro a6 _ w6 ⟨A, c, rfl, hrow, hb6⟩ H6
  have O6 := O5.call hb6
  refine H6.ms 1 fun a7 H7 => nt ?_
  refine wp_seq (label_wp (then_normal ?_))
  refine hpass _ _ ⟨r ++ x, [], A, c, (r ++ x).length, nilV, [], _, .slice A (r ++ x).length c, ⟨H7.keep ⟨rfl, rfl, rfl, rfl, trivial⟩, rfl, own_cap hrow, by simp, fun h => h, O6, rfl, World.ownsRow_nil _ _ _ _, ⟨w.heap.size + 1, O6.lt 0 rfl, .nil (Nat.le_refl _)⟩, own_base hrow (by have := hb5.size; omega), ?_⟩⟩
  intro w' h
  exact rb_of_own rfl (own_base h (Nat.zero_le _)) (Nat.zero_le _)
 ·clear H0 O0 H1
  rintro a1 w1 ⟨y, l, A, c, n, vP, cs, L, vb, hI⟩
  obtain ⟨H1, hn, hc, hle, hF, O1, h24, hrow, hpk, hby, hrd⟩ := hI
  subst hn
  have hzl : (r ++ x).length ≤ 80000 := by rw [List.length_append]; omega
  have hyl : y.length ≤ 80000 := by omega
  have hrd1 := hrd w1 hby
  have hmu : muFeed a1 = y.length := by unfold muFeed; rw [show a1.tmps.getD 9 undef = .slice A y.length c from H1.at_ 9 _ rfl]
  rw [hmu]
  refine H1.rg 1 fun a2 H2 => ?_
  refine H2.len gz rfl rfl rfl rfl Tryz.underlying31 fun a3 H3 => ?_
  by_cases hy : y = []
  ·refine H3.bb 0 rfl rfl rfl rfl rfl rfl (eql_iB _ _ true (by subst hy; rfl) _ _ _) rfl fun a4 H4 => nt (H4.condT rfl ?_)
   refine H4.rg 4 fun a5 H5 => nt (wp_ret ?_)
   repeat (first | (with_reducible refine jump_ret ?_) | (with_reducible refine then_ret ?_))
   refine bodyPost_ret (results_three rfl _ _ _ _ (H5.at_ 4 _ rfl) (H5.at_ 5 _ rfl) (H5.at_ 6 _ rfl)) H5.df ?_
   subst hy
   exact ⟨l, [], 0, vP, none, 0, cs, by simpa using hF .done, rfl, own_base hrow (Nat.le_succ _), hpk.base (Nat.le_succ _), World.ownsRow_nil _ _ _ _, O1.bel⟩
  have hpos : 0 < y.length := List.length_pos_iff.2 hy
  refine H3.bb 0 rfl rfl rfl rfl rfl rfl (eql_iB _ _ false (by rw [beq_eq_false_iff_ne]; omega) _ _ _) rfl fun a4 H4 => nt (H4.condF rfl ?_)
  refine skip_wp (then_normal ?_)
  refine H4.rg 1 fun a5 H5 => ?_
  refine H5.cl (parseC y A c hc w1 hrd1 (by omega) (hT.below O1.bel)) ?_
  rintro a6 _ w2 ⟨m, nn, er, vc, vw, vf, rfl, hP, ⟨hR, hln⟩, hsm, hb⟩ H6
  have O2 := O1.call hb
  have hM2 := MqL.of_rows hR hln (by decide)
  refine H6.ms 1 fun a7 H7 => ?_
  refine H7.ex (r := .agg (mqCells m vc vw vf).toArray) 0 fun a8 H8 => ?_
  refine H8.ex (r := iz nn) 0 fun a9 H9 => ?_
  refine H9.ex (r := iz er) 0 fun a10 H10 => ?_
  refine H10.storeS rfl rfl rfl rfl rfl (O2.get 0 rfl) size_mq h24 rfl hM2.ones fun a11 w3 H11 hgr hs3 hC3 => ?_
  have O3 := O2.store 0 rfl hgr hs3 hC3
  have hrow3 := (own_below hrow hb).kept hgr (.inr (own_ne (own_below hrow hb) (.inl (Nat.lt_succ_self _))).symm)
  have hby3 := (own_below hby hb).kept hgr (.inr (own_ne (own_below hby hb) (.inl (Nat.lt_succ_self _))).symm)
  obtain ⟨hi, hhi, hpk⟩ := hpk
  have hlt2 := hR.lt
  have hpk3 := (hpk.next hb).box hgr (Nat.lt_succ_self _)
  have hi3 : hi ≤ w3.heap.size := Nat.le_trans hhi (Nat.le_trans hb.size hgr.size)
  have hR3 := hR.keptR hgr (hR.far (.inl (O1.lt 0 rfl)))
  refine H11.ms 2 fun a12 H12 => nt ?_
  replace H12 := H12.kp [4, 5, 6, 7, 8, 9]
  clear H1 H2 H3 H4 H5 H6 H7 H8 H9 H10 H11 O1 O2 hrow hby hpk hR hrd1
  refine H12.rg 1 fun a13 H13 => ?_
  by_cases h0 : er = 0
  ·subst h0
   refine H13.bb 0 rfl rfl rfl rfl rfl rfl (eql_35 0 0 true rfl _ _ _) rfl fun a14 H14 => nt (H14.condT rfl ?_)
   obtain ⟨hn2, hny⟩ := parsed_two hP
   refine H14.rg 1 fun a15 H15 => ?_
   refine H15.lm O3 0 0 fun a16 H16 => ?_
   refine H16.any (w' := w3.alloc (.cells (mqCells m vc vw vf).toArray 49)) gz rfl rfl (.slice (some ⟨w3.heap.size, 0, none⟩) 1 1) (by intro cs b h; cases h) (by kernel_rfl) (by kernel_rfl) fun a17 H17 => ?_
   have hl4 := Reads.lit w3 49 (mqCells m vc vw vf) (0, 0) 24 1 rfl
   have hb4 : Below w3.heap.size w3 (w3.alloc (.cells (mqCells m vc vw vf).toArray 49)) := balloc _ _
   generalize w3.alloc (.cells (mqCells m vc vw vf).toArray 49) = w4 at *
   obtain ⟨BB, hBB, hinf⟩ := info_mqx
   have hrow4 := own_below hrow3 hb4
   have O4 := O3.call hb4
   refine H17.app hrow4 hinf hl4 (fun u hu => List.all_eq_true.1 hM2.ones u hu) (by unfold maxLen; omega) (Nat.le_trans (Nat.mul_le_mul (show l.length + 1 ≤ 80000 by omega) hBB) (by decide)) (Nat.le_trans (O3.lt 0 rfl) hb4.size) fun a18 A' c' w5 hO5 hgr5 H18 => ?_
   have O5 := O4.row hrow4 (Nat.le_succ _) hgr5 (fun p hp => by
    rw [List.mem_singleton.1 hp]
    exact own_ne hrow4 (.inl (Nat.lt_succ_self _)))
   have hby4 := own_below hby3 hb4
   have hby5 := hby4.kept hgr5 (own_apart hby4 hrow4 rfl)
   have hpk5 := Prows.snoc ((hpk3.next hb4).row hrow4 hgr5 rfl) hhi hb.size ⟨vc, vw, vf, rfl, (hR3.belowR hb4).row hrow4 hgr5 rfl, hlt2, hln, hsm⟩
   refine H18.ms 1 fun a19 H19 => nt ?_
   refine H19.rg 2 fun a20 H20 => ?_
   refine H20.go gz rfl rfl _ (run_slice_l rfl (H20.ev rfl) (H20.ev rfl) (slice_lo A y.length c nn hny hc _)) fun a21 H21 => ?_
   refine H21.ms 1 fun a22 H22 => nt ?_
   refine wp_goto ?_
   repeat (with_reducible refine then_goto ?_)
   refine jump_goto ⟨⟨y.drop nn, l ++ [m], _, c - nn, y.length - nn, _, cs ++ mqCells m vc vw vf, _, vb, ⟨H22.keep ⟨rfl, rfl, rfl, rfl, trivial⟩, List.length_drop, by omega, by rw [List.length_append, List.length_drop]; simp only [List.length_singleton]; omega, fun h => by rw [List.append_assoc]; exact hF (.one hy hP h), O5, rfl, by rw [List.length_append]; exact hO5, ⟨_, Nat.le_trans (Nat.le_of_eq hs3.symm) (Nat.le_trans hb4.size hgr5.size), hpk5⟩, hby5, fun w' h => (hrd w' h).cut (k := nn) (cap := c) hny hc⟩⟩, ?_⟩
   unfold muFeed
   rw [show a22.tmps.getD 9 undef = _ from H22.at_ 9 _ rfl]
   show y.length - nn < y.length
   omega
  refine H13.bb 0 rfl rfl rfl rfl rfl rfl (eql_35 er 0 false (by rw [beq_eq_false_iff_ne]; exact h0) _ _ _) rfl fun a14 H14 => nt (H14.condF rfl ?_)
  refine skip_wp (then_normal ?_)
  refine H14.rg 1 fun a15 H15 => ?_
  by_cases h7 : er = 7
  ·subst h7
   refine H15.bb 0 rfl rfl rfl rfl rfl rfl (eql_35 7 7 true rfl _ _ _) rfl fun a16 H16 => nt (H16.condT rfl ?_)
   refine H16.rg 2 fun a17 H17 => ?_
   refine H17.cl (cloneC y A c w3 (hrd w3 hby3) (by omega)) ?_
   rintro a18 _ w4 ⟨A', c', rfl, hO4, hb4⟩ H18
   refine H18.ms 3 fun a19 H19 => nt (wp_ret ?_)
   repeat (first | (with_reducible refine jump_ret ?_) | (with_reducible refine then_ret ?_))
   refine bodyPost_ret (results_three rfl _ _ _ _ (H19.at_ 4 _ rfl) (H19.at_ 5 _ rfl) (H19.at_ 6 _ rfl)) H19.df ?_
   exact ⟨l, y, 0, vP, A', c', cs, by simpa using hF (.part hy hP), rfl, own_base (own_below hrow3 hb4) (Nat.le_succ _), PR.base ⟨hi, Nat.le_trans hi3 hb4.size, hpk3.next hb4⟩ (Nat.le_succ _), own_base hO4 O3.le, (O3.call hb4).bel⟩
  ·refine H15.bb 0 rfl rfl rfl rfl rfl rfl (eql_35 er 7 false (by rw [beq_eq_false_iff_ne]; exact h7) _ _ _) rfl fun a16 H16 => nt (H16.condF rfl ?_)
   refine skip_wp (then_normal ?_)
   refine H16.rg 5 fun a17 H17 => nt (wp_ret ?_)
   repeat (first | (with_reducible refine jump_ret ?_) | (with_reducible refine then_ret ?_))
   refine bodyPost_ret (results_three rfl _ _ _ _ (H17.at_ 4 _ rfl) (H17.at_ 5 _ rfl) (H17.at_ 6 _ rfl)) H17.df ?_
   exact ⟨l, [], er, vP, none, 0, cs, by simpa using hF (.bad hy hP h0 h7), rfl, own_base hrow3 (Nat.le_succ _), PR.base ⟨hi, hi3, hpk3⟩ (Nat.le_succ _), World.ownsRow_nil _ _ _ _, O3.bel⟩
end
section
open Go.RowKit
theorem feedT (x : List UInt8) (Ax : Option Addr) (cx : Nat) (w : World) (hx : RB w w.heap.size Ax x) (hlx : x.length ≤ 40000) (hT : Wd w) :
  Calls Tryz.prog 56 #[nilV, .slice Ax x.length cx] w fun e w' => ∃ v, e = .returned v ∧ ∃ l left er A c AL cL cs, v = .tuple #[.slice A l.length c, .slice AL left.length cL, iz er] ∧ Fed x l left er ∧ w'.ownsRow w.heap.size 49 24 (.slice A l.length c) l.length cs ∧ PR w' w.heap.size l cs ∧ Below w.heap.size w w' := by
 refine (feedW [] x none Ax 0 cx w RB.nil hx (by decide) hlx hT).mono ?_
 rintro e w' ⟨l, left, er, vP, AL, cL, cs, h1, h2, h3, h4, _, h6⟩
 obtain ⟨A, c, rfl, _, _⟩ := own_shape h3
 exact ⟨_, h2, l, left, er, A, c, AL, cL, cs, rfl, h1, h3, h4, h6⟩
theorem tracePackets (l : List (List UInt8)) (AL : Option Addr) (cL : Nat) (ti port : Int) (hti : inR ti 4294967295 = true) (hpo : inR port 65535 = true) (w : World) (hL : FrsS w (fun _ => True) AL l) (hl : l.length ≤ 100000) (hlb : ∀ b ∈ l, b.length ≤ 140737488351232) (hT : Wd w) (hx : ∀ x, Heard ti port l .zero x → x.b.length ≤ 40000) (n : Nat) (hn : l.length = n) :
  Calls Tryz.prog 21 #[.slice AL n cL, iz ti, iz port] w fun e w' => ∃ v, e = .returned v ∧ ∃ x k left er A c cs, v = .tuple #[.slice A k.length c, iz er] ∧ Heard ti port l .zero x ∧ Fed x.b k left er ∧ w'.ownsRow w.heap.size 49 24 (.slice A k.length c) k.length cs ∧ PR w' w.heap.size k cs ∧ Below w.heap.size w w' := by
 subst hn
 go_enter Tryz.func21, Tryz.ntmps21
 refine Has.start 32 [(0, .slice AL l.length cL), (1, iz ti), (2, iz port)] rfl rfl ⟨rfl, rfl, rfl, trivial⟩ ?_
 intro a0 H0
 refine H0.rg 2 fun a H => nt ?_
 refine H.rg 3 fun a H => ?_
 refine H.cl (traceStream l AL cL ti port hti hpo w hL hl hlb) ?_
 rintro a _ w1 ⟨x, A, c, rfl, hh, hok, hO, hb1⟩ H
 generalize (x.rst || decide (x.nq ∈ x.fins)) = z at H
 refine H.ms 1 fun a H => ?_
 refine H.ex (r := .slice A x.b.length c) 0 fun a H => ?_
 refine H.ex (r := .bool z) 0 fun a H => ?_
 refine H.ex (r := iz 0) 3 fun a H => nt ?_
 replace H := H.kp [8, 10]
 refine H.rg 1 fun a H => ?_
 refine H.bb 0 rfl rfl rfl rfl rfl rfl (neq_e 0 0 false rfl _ _ _) rfl fun a H => nt (H.condF rfl (skip_wp (then_normal ?_)))
 replace H := H.kp [8]
 refine H.rg 1 fun a H => ?_
 refine H.cl (feedT x.b A c w1 (rb_of_own rfl hO hb1.size) (hx x hh) (hT.below hb1)) ?_
 rintro a _ w2 ⟨k, left, er, A2, c2, AL2, cL2, cs, rfl, hF, hO2, hP2, hb2⟩ H
 refine H.ms 1 fun a H => ?_
 refine H.ex (r := .slice A2 k.length c2) 0 fun a H => ?_
 refine H.ex (r := .slice AL2 left.length cL2) 0 fun a H => ?_
 refine H.ex (r := iz er) 3 fun a H => nt ?_
 replace H := H.kp [11, 10]
 refine H.rg 4 fun a H => nt (wp_ret ?_)
 repeat (first | (with_reducible refine block_ret ?_) | (with_reducible refine then_ret ?_))
 exact bodyPost_ret (results_pair rfl _ _ _ (H.at_ 6 _ rfl) (H.at_ 7 _ rfl)) H.df ⟨_, rfl, x, k, left, er, A2, c2, cs, rfl, hh, hF, own_base hO2 hb1.size, hP2.base hb1.size, hb1.trans (hb2.mono hb1.size)⟩
end
section
open Go.ChangeShapes Go.WideShapes Go.ChangeAt Go.RowKit Go.Deep
theorem own_knob : ownKnob Tryz.prog.godebug = none := by kernel_rfl
theorem laid_out : laidOutB Tryz.prog = true := by kernel_rfl
section
variable {H : Type} {enc : TypeId × Value → H} {P : Program}
theorem post_of_below {f : Func} {s : ChangeSpec} {apart fresh handsOn again : Bool} {W W' : World} {args : Array Value} {v : Value} {ds gs : List (DataW H)} {before pa pv : List MemPlace}
  (hW : DataW.Whole enc P f.params.toList s.vars apart W args.toList ds gs before)
  (hres : ∀ (b : Nat) (sp : Nat → Bool) (hd : Bool), DataW.TrodAll enc P W' b sp hd f.resultTypes.toList (v.resultList f.resultTypes.size) (s.fn H (ds ++ gs)).results [])
  (hargs : ∀ sp : Nat → Bool, (∀ p ∈ before, sp p.block = true) → DataW.TrodAll enc P W' 0 sp true f.params.toList args.toList (s.fn H (ds ++ gs)).args pa)
  (hvars : ∀ sp : Nat → Bool, (∀ p ∈ before, sp p.block = true) → DataW.TrodVars enc P W' sp s.vars (s.fn H (ds ++ gs)).vars pv)
  (hps : before = pa ++ pv) (hb : Below W.heap.size W W')
  (hok : ∀ (j : Nat) (t : TypeId) (r : Value), f.resultTypes[j]? = some t → (v.resultList f.resultTypes.size)[j]? = some r → Value.okWide P W' .any 0 t r) :
  s.post enc P f apart fresh handsOn again W args v W' := by
 have hlt : ∀ p ∈ before, p.block < W.heap.size := fun p hp => hW.lt p hp
 have hold : ∀ p ∈ before, (fun b => decide (b < W.heap.size)) p.block = true := fun p hp => by simpa using hlt p hp
 refine ⟨ds, gs, before, [], pa, pv, hW, hres _ _ _, hargs _ hold, hvars _ hold, World.keptBut_mono (fun p hp => ⟨hp, ?_⟩) (hb.frame (· ∈ before)), fun _ => ?_⟩
 ·rw [hps, List.mem_append] at hp
  exact Or.inr hp
 ·obtain ⟨_, _, _, _, _, hz, hn⟩ := hW
  refine ⟨hok, _, _, ([] ++ pa) ++ pv, ⟨[] ++ pa, pv, trodAll_append (hargs _ (fun _ _ => rfl)) (hres _ _ _), hvars _ (fun _ _ => rfl), rfl, ?_, ?_⟩, ?_⟩
  ·intro b off hp
   have hin : MemPlace.cell b off ∈ before := by rw [hps]; simpa using hp
   rw [hb.frozen (hlt _ hin)]
   exact hz b off hin
  ·intro ha
   have := hn ha
   rw [hps] at this
   simpa using this
  ·intro p hp _
   rw [hps]
   simpa using hp
end
def Comes {H : Type} (enc : TypeId × Value → H) (W : World) (T : TypeId) (v : Value) (d : DataW H) (p : List MemPlace) : Prop :=
 DataW.Trod enc Tryz.prog W 0 (fun _ => true) true T v d p ∧ (∃ base, Value.okWide Tryz.prog W .any base T v) ∧ (DataW.weightsEach Tryz.prog [T] [d]).all (· ≤ reachBytes) = true
section
theorem ok_first {P : Program} {fn : Func} {W : World} {base : Nat} {T : TypeId} {args : Array Value} {v : Value} (hp : fn.params = #[T]) (ha : args[0]? = some v)
  (h : ∀ (j : Nat) t v, fn.params[j]? = some t → args[j]? = some v → Value.okWide P W .any base t v) : ∃ base, Value.okWide P W .any base T v := ⟨base, h 0 T v (by rw [hp]; rfl) ha⟩
theorem ok_bool {P : Program} {W : World} {Tb : TypeId} (hb : P.underlying Tb = some .bool) : ∀ (j : Nat) (t : TypeId) (r : Value), #[Tb][j]? = some t → ((Value.bool true).resultList 1)[j]? = some r → Value.okWide P W .any 0 t r := by
 intro j t r hj hr'
 match j, hj, hr' with
 | 0, hj, hr' =>
  simp [Value.resultList] at hj hr'
  subst hj; subst hr'
  exact okWide_bool_mk hb true
 | j + 1, hj, _ => simp at hj
theorem laid_core {C : Checked} {K : FuncId} {fn : Func} {T Tb : TypeId} {s : ChangeSpec} {lay : List (String × DataW Unit)} (own : ownKnob C.prog.godebug = none) (hlo : laidOutB C.prog = true) (hK : C.prog.funcs[K]? = some fn) (hp : fn.params = #[T]) (hr : fn.resultTypes = #[Tb]) (hb : C.prog.underlying Tb = some .bool)
  (hvars : s.vars = []) (hfn : ∀ (H : Type) (d : DataW H), s.fn H [d] = { results := [.lit (.bool true)], args := [d] })
  (hT : C.prog.readableRec T = true) (hTs : T < C.prog.types.size) (noInit : C.prog.inits.idxOf? K = none)
  (walk : ∀ (H : Type) (enc : TypeId × Value → H) (W : World) (v : Value) (d : DataW H) (p : List MemPlace), DataW.Trod enc C.prog W 0 (fun _ => true) true T v d p → (∃ base, Value.okWide C.prog W .any base T v) → (DataW.weightsEach C.prog [T] [d]).all (· ≤ reachBytes) = true → laidMetH C.prog lay W → Calls C.prog K #[v] W fun e W' => e = .returned (.bool true) ∧ Below W.heap.size W W')
  (os : Os) (started : os.Started) (H : Type) (enc : TypeId × Value → H)
  (witness : ∃ (w : World) (tape : Tape) (i : Input), w.os = os ∧ (w.forCall tape i).Shaped C.prog ∧ i.vars = [] ∧ Input.okWide C.prog (w.forCall tape i) .any w.heap.size K i ∧
   ((s.pre enc C.prog fn [] false (w.forCall tape i).memory i.args ∧ laidMetH C.prog lay (w.forCall tape i).memory) ∧ sizedMet enc C.prog fn (OpenSpec.ofChange s) false (w.forCall tape i).memory i.args) ∧ ({} : Assume).holds C.prog (lone (Frame.enter C.prog K i.args .normal) [] (w.forCall tape i))) :
  ReturnsInHanded {} C os K .any (fun w args => (s.pre enc C.prog fn [] false w args ∧ laidMetH C.prog lay w) ∧ sizedMet enc C.prog fn (OpenSpec.ofChange s) false w args) (s.post enc C.prog fn false true false false) := by
 refine returnsInHanded_of_change_and (X := fun w _ => laidMetH C.prog lay w) (fun _ _ _ hh h => h.of_heap hh) own started noInit hK witness ?_
 intro W base args ds gs before hval0 hW _ hsz0 hL _
 have hW' := hW
 obtain ⟨p, q, hA, hV, rfl, _, _⟩ := hW
 rw [hvars] at hV
 obtain ⟨rfl, rfl⟩ := trodVars_none hV
 rw [hp] at hA
 obtain ⟨v, d, ha, rfl, h0⟩ := trodAll_one hA
 subst ha
 have hsz : (DataW.weightsEach C.prog [T] [d]).all (· ≤ reachBytes) = true := by
  have h : (DataW.weightsEach C.prog (fn.params.toList ++ s.plain.varTypes C.prog) ([d] ++ [])).all (· ≤ reachBytes) = true := hsz0
  rw [hp] at h
  simpa [DataSpec.varTypes, ChangeSpec.plain, hvars] using h
 have hlt : ∀ x ∈ p, x.block < W.heap.size := fun x hx => hW'.lt x (by simpa using hx)
 refine (walk H enc W v d p h0 (ok_first hp rfl hval0) hsz hL).mono fun e W' ⟨he, hbl⟩ => ?_
 refine ⟨_, he, post_of_below (pa := p) (pv := []) hW' ?_ ?_ ?_ (by simp) hbl ?_⟩
 ·intro b sp hd
  rw [hr, List.append_nil, hfn]
  exact trodAll_mk1 (shut_bool hb true)
 ·intro sp hsp
  rw [hp, List.append_nil, hfn]
  exact trodAll_mk1 (WideElems.Trod_stays hlo hT hTs h0 (fun x hx => hbl.same (hlt x hx)) (fun x hx => hsp x (by simpa using hx)))
 ·intro sp _
  rw [hvars, List.append_nil, hfn]
  rfl
 ·rw [hr]
  exact ok_bool hb
end
end
section
open Go.ChangeShapes Go.WideShapes Go.ChangeAt Go.RowKit Go.Deep
def Fit {H : Type} (t : TypeId) (d : DataW H) : Prop := ∀ n ∈ DataW.weights Tryz.prog t d, n ≤ 140737488351232
theorem Fit.of {H : Type} {T : TypeId} {d : DataW H} (h : (DataW.weightsEach Tryz.prog [T] [d]).all (· ≤ reachBytes) = true) : Fit T d := by
 intro n hn
 have := List.all_eq_true.1 h n (DataW.weights_mem_each (j := 0) rfl rfl n hn)
 have h2 : n ≤ reachBytes := by simpa using this
 exact h2
theorem Fit.slice {H : Type} {t e : TypeId} {elems spare : List (DataW H)} (h : Fit t (.slice elems spare)) (ht : Tryz.prog.underlying t = some (.slice e)) :
  (elems.length + spare.length) * Tryz.prog.bytesOf e ≤ 140737488351232 ∧ ∀ x ∈ elems, Fit e x := by
 have hw : DataW.weights Tryz.prog t (.slice elems spare) = (elems.length + spare.length) * Tryz.prog.bytesOf e :: (DataW.weightsAll Tryz.prog e elems ++ DataW.weightsAll Tryz.prog e spare) := by
  simp [DataW.weights, ht]
 unfold Fit at h
 rw [hw] at h
 refine ⟨h _ (by simp), fun x hx n hn => h n ?_⟩
 have : ∀ l : List (DataW H), x ∈ l → n ∈ DataW.weightsAll Tryz.prog e l := by
  intro l
  induction l with
  | nil => intro h; cases h
  | cons a r ih =>
   intro h
   simp only [DataW.weightsAll, List.mem_append]
   rcases List.mem_cons.1 h with rfl | h
   ·exact Or.inl hn
   ·exact Or.inr (ih h)
 simp [this elems hx]
theorem Fit.struct {H : Type} {t : TypeId} {fs : Array Field} {ys : List (DataW H × List MemPlace)} (h : Fit t (.agg (ys.map (·.1)))) (ht : Tryz.prog.underlying t = some (.struct fs)) (j : Nat) (f : Field) (hf : fs[j]? = some f) (y : DataW H × List MemPlace) (hy : ys[j]? = some y) : Fit f.type y.1 := by
 intro n hn
 refine h n ?_
 have hw : DataW.weights Tryz.prog t (.agg (ys.map (·.1))) = DataW.weightsEach Tryz.prog (fs.toList.map (·.type)) (ys.map (·.1)) := by simp [DataW.weights, ht]
 rw [hw]
 refine DataW.weights_mem_each (j := j) (t := f.type) (d := y.1) ?_ ?_ n hn
 ·rw [List.getElem?_map]
  simp [hf]
 ·rw [List.getElem?_map, hy]; rfl
section
variable {H : Type} {enc : TypeId × Value → H} {W : World}
end
theorem okw_struct {P : Program} {W : World} {T : TypeId} {fs : Array Field} {v : Value} (ht : P.underlying T = some (.struct fs)) (h : ∃ base, Value.okWide P W .any base T v) : ∃ cs, v = .agg cs ∧ cs.size = P.cellsOf T := by
 obtain ⟨b, hv⟩ := h
 unfold Value.okWide at hv
 rw [ht] at hv
 obtain ⟨cs, h1, h2, _⟩ := hv
 exact ⟨cs, h1, h2⟩
end
section
open Go.RowKit
def wgt : List Nat → Nat → Nat
 | [], n => n
 | x :: xs, n => if n < 1048576 then wgt xs (n + x) else n
theorem wgt_le (M : Nat) (hM : 1048576 ≤ M) (X : Nat) : ∀ (l : List Nat) (n : Nat), (∀ x ∈ l, x ≤ X) → n ≤ M + X → wgt l n ≤ M + X
 | [], _, _, hn => hn
 | x :: xs, n, h, hn => by
  unfold wgt
  have hx := h x List.mem_cons_self
  split
  ·exact wgt_le M hM X xs (n + x) (fun y hy => h y (List.mem_cons_of_mem _ hy)) (by omega)
  ·exact hn
theorem add_wrap (a b : Nat) (h : a + b < 9223372036854775808) : IntKind.i64.wrap ((a : Int) + (b : Int)) = ((a + b : Nat) : Int) := by
 rw [IntWalk.i64_in _ (by omega)]; omega
theorem weighWishes (l : List (ByteArray × Int)) (A : Option Addr) (c : Nat) (hn : l.length ≤ 140737488351232) (hf : ∀ s ∈ l, Fits s.1) (w : World) (hr : Reads w w.heap.size 2 A l.length (wv l)) :
  Calls Tryz.prog 69 #[.slice A l.length c] w fun e w' => e = .returned (.int .i64 ((wgt (l.map (·.1.size)) l.length : Nat) : Int)) ∧ w = w' := by
 have HX : Hid (wgt ((l.drop 0).map (·.1.size)) l.length = wgt (l.map (·.1.size)) l.length) := rfl
 generalize wgt (l.map (·.1.size)) l.length = X at *
 go_enter Tryz.func69, Tryz.ntmps69
 go_wp2
 go_loopw [3, 4] (fun nv i wr => ∃ k n : Nat, k ≤ l.length ∧ nv = .int .i64 (n : Int) ∧ i = .int .i64 (k : Int) ∧ w = wr ∧ n ≤ 140737489399808 ∧ Hid (wgt ((l.drop k).map (·.1.size)) n = X)) (fun _ i _ => l.length - (intOf i).toNat)
 case atStart => exact ⟨0, l.length, Nat.zero_le _, rfl, rfl, rfl, by omega, HX⟩
 case round =>
  obtain ⟨k, n, hk, rfl, rfl, rfl, hnB, hf2⟩ := hrel
  by_cases hlt : k < l.length
  ·obtain ⟨b, o, x, rfl, hb, hx, hc0, hc1⟩ := Reads.wish hr rfl hlt
   have hs := hf x (List.mem_of_getElem? hx)
   have hd := drop_of hx
   have hf3 := hf2.out
   rw [hd, List.map_cons, wgt] at hf3
   by_cases hn2 : n < 1048576
   ·rw [if_pos hn2] at hf3
    have HP : Hid (wgt ((l.drop (k + 1)).map (·.1.size)) (n + x.1.size) = X) := hf3
    have hw := add_wrap n x.1.size (by omega)
    have hn3 : (n : Int) < 1048576 := by omega
    clear hn2
    clear hx hd hf3 hf2 hc1 hf
    go_wp2
    go_roundw
    case rel => exact ⟨k + 1, n + x.1.size, by omega, by simp, by go_num, by first | trivial | rfl, by omega, HP⟩
    case measure => simp [intOf]; omega
   ·rw [if_neg hn2] at hf3
    have HP : Hid (n = X) := hf3
    have hn3 : ¬ (n : Int) < 1048576 := by omega
    clear hn2
    clear hx hd hf3 hf2 hc1 hf hc0
    go_wp2
    go_ret
    exact ⟨by rw [← HP.out]; rfl, rfl⟩
  ·have HP : Hid (n = X) := by
    have := hf2.out
    rw [List.drop_eq_nil_of_le (by omega)] at this
    exact this
   clear hf2 hf
   go_wp2
   go_ret
   exact ⟨by rw [← HP.out]; rfl, rfl⟩
theorem weighStrs (l : List ByteArray) (A : Option Addr) (c : Nat) (hn : l.length ≤ 140737488351232) (hf : ∀ s ∈ l, Fits s) (w : World) (hr : Reads w w.heap.size 1 A l.length (l.map sv)) :
  Calls Tryz.prog 70 #[.slice A l.length c] w fun e w' => e = .returned (.int .i64 ((wgt (l.map (·.size)) l.length : Nat) : Int)) ∧ w = w' := by
 have HX : Hid (wgt ((l.drop 0).map (·.size)) l.length = wgt (l.map (·.size)) l.length) := rfl
 generalize wgt (l.map (·.size)) l.length = X at *
 go_enter Tryz.func70, Tryz.ntmps70
 go_wp2
 go_loopw [3, 4] (fun nv i wr => ∃ k n : Nat, k ≤ l.length ∧ nv = .int .i64 (n : Int) ∧ i = .int .i64 (k : Int) ∧ w = wr ∧ n ≤ 140737489399808 ∧ Hid (wgt ((l.drop k).map (·.size)) n = X)) (fun _ i _ => l.length - (intOf i).toNat)
 case atStart => exact ⟨0, l.length, Nat.zero_le _, rfl, rfl, rfl, by omega, HX⟩
 case round =>
  obtain ⟨k, n, hk, rfl, rfl, rfl, hnB, hf2⟩ := hrel
  by_cases hlt : k < l.length
  ·obtain ⟨b, o, x, rfl, hb, hx, hc0⟩ := Reads.str hr rfl hlt
   have hs := hf x (List.mem_of_getElem? hx)
   have hd := drop_of hx
   have hf3 := hf2.out
   rw [hd, List.map_cons, wgt] at hf3
   by_cases hn2 : n < 1048576
   ·rw [if_pos hn2] at hf3
    have HP : Hid (wgt ((l.drop (k + 1)).map (·.size)) (n + x.size) = X) := hf3
    have hw := add_wrap n x.size (by omega)
    have hn3 : (n : Int) < 1048576 := by omega
    clear hn2
    clear hx hd hf3 hf2 hf
    go_wp2
    go_roundw
    case rel => exact ⟨k + 1, n + x.size, by omega, by simp, by go_num, by first | trivial | rfl, by omega, HP⟩
    case measure => simp [intOf]; omega
   ·rw [if_neg hn2] at hf3
    have HP : Hid (n = X) := hf3
    have hn3 : ¬ (n : Int) < 1048576 := by omega
    clear hn2
    clear hx hd hf3 hf2 hf hc0
    go_wp2
    go_ret
    exact ⟨by rw [← HP.out]; rfl, rfl⟩
  ·have HP : Hid (n = X) := by
    have := hf2.out
    rw [List.drop_eq_nil_of_le (by omega)] at this
    exact this
   clear hf2 hf
   go_wp2
   go_ret
   exact ⟨by rw [← HP.out]; rfl, rfl⟩
theorem add_n (a b : Nat) (h : a + b < 9223372036854775808) (x y : Operand) (w : World) : (do eqGuard .add 3 x y (.int .i64 (a : Int)) (.int .i64 (b : Int)); binOp .add 3 (.int .i64 (a : Int)) (.int .i64 (b : Int)) : Sem Value).run Tryz.prog w = .ok (.int .i64 ((a + b : Nat) : Int)) w := by
 simp [go_sem]
 rw [add_wrap _ _ h]
 rfl
def wishW (m : Mq) : Nat := wgt (m.wishes.map (·.1.size)) m.wishes.length
def filtW (m : Mq) : Nat := wgt (m.filters.map (·.size)) m.filters.length
def mqW (m : Mq) : Nat := m.client.size + m.wt.size + m.wp.size + m.user.size + m.pass.size + m.codes.length + m.topic.size + m.payload.size + wishW m + filtW m
theorem weighMq (m : Mq) (vc vw vf : Value) (w : World) (hL : MqL w w.heap.size m vc vw vf) (hF : MqFit m) :
  Calls Tryz.prog 33 #[.agg (mqCells m vc vw vf).toArray] w fun e w' => e = .returned (.int .i64 ((mqW m : Nat) : Int)) ∧ Below w.heap.size w w' := by
 obtain ⟨A1, c1, A2, c2, A3, c3, rfl, rfl, rfl, l1, l2, l3, k1', k2', k3', r1, r2, r3⟩ := id hL
 have f1 := hF.client
 have f2 := hF.wt
 have f3 := hF.wp
 have f4 := hF.user
 have f5 := hF.pass
 have f6 := hF.topic
 have f7 := hF.payload
 unfold Fits at f1 f2 f3 f4 f5 f6 f7
 have g1 : wishW m ≤ 1000000000000000 := Nat.le_trans (wgt_le 140737488351232 (by decide) 140737488351232 _ _ (by intro x hx; obtain ⟨s, hs, rfl⟩ := List.mem_map.1 hx; exact hF.wishes s hs) (by omega)) (by decide)
 have g2 : filtW m ≤ 1000000000000000 := Nat.le_trans (wgt_le 140737488351232 (by decide) 140737488351232 _ _ (by intro x hx; obtain ⟨s, hs, rfl⟩ := List.mem_map.1 hx; exact hF.filters s hs) (by omega)) (by decide)
 go_enter Tryz.func33, Tryz.ntmps33
 refine Has.start 44 [(0, .agg (mqCells m (.slice A1 m.codes.length c1) (.slice A2 m.wishes.length c2) (.slice A3 m.filters.length c3)).toArray)] rfl rfl ⟨rfl, trivial⟩ ?_
 intro a0 H0
 have O0 := Own.start w
 refine rl ?_
 refine H0.bx O0 1 fun a2 w1 O1 H2 => nt ?_
 have HB1 := Base.of O1
 obtain ⟨b0, hb0⟩ : ∃ b0, b0 = w1.heap.size := ⟨_, rfl⟩
 rw [← hb0] at HB1
 have hb0' := hb0
 clear hb0
 have H3 := H2.kp [1]
 refine H3.dr HB1 [1] rfl [ec 0 3 (.pointer (some ⟨w.heap.size, 1, none⟩)), ec 1 4 (.string m.client), ec 2 5 (.int .i64 ((m.client.size : Nat) : Int)), ec 3 6 (.pointer (some ⟨w.heap.size, 4, none⟩)), ec 4 7 (.pointer (some ⟨w.heap.size, 5, none⟩)), ec 5 8 (.string m.wt), ec 6 9 (.int .i64 ((m.wt.size : Nat) : Int)), ec 7 10 (.int .i64 ((m.client.size + m.wt.size : Nat) : Int)), ec 8 11 (.pointer (some ⟨w.heap.size, 4, none⟩)), ec 9 12 (.pointer (some ⟨w.heap.size, 6, none⟩)), ec 10 13 (.string m.wp), ec 11 14 (.int .i64 ((m.wp.size : Nat) : Int)), ec 12 15 (.int .i64 ((m.client.size + m.wt.size + m.wp.size : Nat) : Int)), ec 13 16 (.pointer (some ⟨w.heap.size, 9, none⟩)), ec 14 17 (.string m.user), ec 15 18 (.int .i64 ((m.user.size : Nat) : Int)), ec 16 19 (.int .i64 ((m.client.size + m.wt.size + m.wp.size + m.user.size : Nat) : Int)), ec 17 20 (.pointer (some ⟨w.heap.size, 11, none⟩)), ec 18 21 (.string m.pass), ec 19 22 (.int .i64 ((m.pass.size : Nat) : Int)), ec 20 23 (.int .i64 ((m.client.size + m.wt.size + m.wp.size + m.user.size + m.pass.size : Nat) : Int)), ec 21 24 (.pointer (some ⟨w.heap.size, 15, none⟩)), ec 22 25 (.slice A1 m.codes.length c1), ec 23 26 (.int .i64 ((m.codes.length : Nat) : Int)), ec 24 27 (.int .i64 ((m.client.size + m.wt.size + m.wp.size + m.user.size + m.pass.size + m.codes.length : Nat) : Int)), ec 25 28 (.pointer (some ⟨w.heap.size, 19, none⟩)), ec 26 29 (.string m.topic), ec 27 30 (.int .i64 ((m.topic.size : Nat) : Int)), ec 28 31 (.int .i64 ((m.client.size + m.wt.size + m.wp.size + m.user.size + m.pass.size + m.codes.length + m.topic.size : Nat) : Int)), ec 29 32 (.pointer (some ⟨w.heap.size, 21, none⟩)), ec 30 33 (.string m.payload), ec 31 34 (.int .i64 ((m.payload.size : Nat) : Int)), ec 32 35 (.int .i64 ((m.client.size + m.wt.size + m.wp.size + m.user.size + m.pass.size + m.codes.length + m.topic.size + m.payload.size : Nat) : Int)), ec 33 36 (.pointer (some ⟨w.heap.size, 22, none⟩)), ec 34 37 (.slice A2 m.wishes.length c2), ec 35 38 (.int .i64 ((wishW m : Nat) : Int)), ec 36 39 (.int .i64 ((m.client.size + m.wt.size + m.wp.size + m.user.size + m.pass.size + m.codes.length + m.topic.size + m.payload.size + wishW m : Nat) : Int)), ec 37 40 (.pointer (some ⟨w.heap.size, 23, none⟩)), ec 38 41 (.slice A3 m.filters.length c3), ec 39 42 (.int .i64 ((filtW m : Nat) : Int)), ec 40 43 (.int .i64 ((m.client.size + m.wt.size + m.wp.size + m.user.size + m.pass.size + m.codes.length + m.topic.size + m.payload.size + wishW m + filtW m : Nat) : Int)), ec 41 2 (.int .i64 ((m.client.size + m.wt.size + m.wp.size + m.user.size + m.pass.size + m.codes.length + m.topic.size + m.payload.size + wishW m + filtW m : Nat) : Int))] rfl ⟨jm, (jl fun _ h => h.own.ls 0 1), js Tryz.underlying9, jm, jm, (jl fun _ h => h.own.ls 0 5), js Tryz.underlying9, (jB rfl rfl rfl rfl rfl rfl fun _ => (add_n _ _ (by omega) _ _ _)), jm, jm, (jl fun _ h => h.own.ls 0 6), js Tryz.underlying9, (jB rfl rfl rfl rfl rfl rfl fun _ => (add_n _ _ (by omega) _ _ _)), jm, (jl fun _ h => h.own.ls 0 9), js Tryz.underlying9, (jB rfl rfl rfl rfl rfl rfl fun _ => (add_n _ _ (by omega) _ _ _)), jm, (jl fun _ h => h.own.ls 0 11), js Tryz.underlying9, (jB rfl rfl rfl rfl rfl rfl fun _ => (add_n _ _ (by omega) _ _ _)), jm, (jl fun _ h => h.own.l6 0 15), jn Tryz.underlying45, (jB rfl rfl rfl rfl rfl rfl fun _ => (add_n _ _ (by omega) _ _ _)), jm, (jl fun _ h => h.own.ls 0 19), js Tryz.underlying9, (jB rfl rfl rfl rfl rfl rfl fun _ => (add_n _ _ (by omega) _ _ _)), jm, (jl fun _ h => h.own.ls 0 21), js Tryz.underlying9, (jB rfl rfl rfl rfl rfl rfl fun _ => (add_n _ _ (by omega) _ _ _)), jm, (jl fun _ h => h.own.l7 0 22), (jq fun ww h => (weighWishes m.wishes A2 c2 k2' hF.wishes ww ((r2.below h.own.bel).more h.own.le))), (jB rfl rfl rfl rfl rfl rfl fun _ => (add_n _ _ (by omega) _ _ _)), jm, (jl fun _ h => h.own.l8 0 23), (jq fun ww h => (weighStrs m.filters A3 c3 k3' hF.filters ww ((r3.below h.own.bel).more h.own.le))), (jB rfl rfl rfl rfl rfl rfl fun _ => (add_n _ _ (by omega) _ _ _)), jm, trivial⟩ trivial ?_ ?_
 ·exact fun _ _ _ _ _ _ _ _ _ _ _ hh => False.elim hh
 ·intro listed a4 w2 hall hI
  have r_2 := hI.vs _ (ma 41 rfl) (.inr (hall 41 (by decide))) trivial
  have H4 : Has a4 44 [(1, .pointer (some ⟨w.heap.size, 0, none⟩)), (2, .int .i64 ((m.client.size + m.wt.size + m.wp.size + m.user.size + m.pass.size + m.codes.length + m.topic.size + m.payload.size + wishW m + filtW m : Nat) : Int))] := Has.of hI.sz hI.df ⟨hI.fx.1, r_2, trivial⟩
  have HB2 := hI.wp
  refine then_normal ?_
  refine wp_ret ?_
  repeat (first | (with_reducible refine block_ret ?_) | (with_reducible refine then_ret ?_))
  exact bodyPost_ret (results_tmp rfl _ _ _) H4.df ⟨congrArg Ending.returned (H4.at_ 2 _ rfl), HB2.own.bel⟩
end
section
open Go.ChangeShapes Go.WideShapes Go.ChangeAt Go.RowKit Go.Deep
theorem cells_int : Tryz.prog.cellsOf 3 = 1 := by kernel_rfl
theorem cells_str : Tryz.prog.cellsOf 9 = 1 := by kernel_rfl
theorem cells_bool : Tryz.prog.cellsOf 4 = 1 := by kernel_rfl
theorem cells_wish : Tryz.prog.cellsOf 161 = 2 := by kernel_rfl
theorem cells_ints : Tryz.prog.cellsOf 45 = 1 := by kernel_rfl
theorem cells_strs : Tryz.prog.cellsOf 47 = 1 := by kernel_rfl
theorem cells_wishes : Tryz.prog.cellsOf 46 = 1 := by kernel_rfl
theorem cells_mq : Tryz.prog.cellsOf 49 = 24 := by kernel_rfl
theorem cells_will : Tryz.prog.cellsOf 44 = 5 := by kernel_rfl
theorem bytes_int : Tryz.prog.bytesOf 3 = 8 := by kernel_rfl
theorem bytes_str : Tryz.prog.bytesOf 9 = 16 := by kernel_rfl
theorem bytes_wish : Tryz.prog.bytesOf 161 = 24 := by kernel_rfl
section
variable {H : Type} {enc : TypeId × Value → H} {W : World}
theorem Fit.str {s : ByteArray} (h : Fit (H := H) 9 (.lit (.string s.data.toList))) : Fits s := by
 have h1 : s.data.toList.length ∈ DataW.weights (H := H) Tryz.prog 9 (.lit (.string s.data.toList)) := by
  rw [DataW.weights]
  exact List.mem_singleton.2 rfl
 have h2 := h _ h1
 rw [Array.length_toList] at h2
 exact h2
theorem read_str {n : Nat} {cs : List Value} {x : DataW H × List MemPlace} (hfit : Fit 9 x.1) (h : DataW.trod enc Tryz.prog W 0 (fun _ => true) true n 9 cs = some x) : ∃ s : ByteArray, cs = [.string s] ∧ Fits s := by
 obtain ⟨s, h1, h2, _⟩ := DataW.trod_string Tryz.underlying9 h
 refine ⟨s, h1, ?_⟩
 rw [h2] at hfit
 exact Fit.str hfit
theorem reads_of {a : Addr} {size n : Nat} {xs : List Value} (hl : xs.length = n * size) (hs : 0 < size) (hc : ∀ j u, xs[j]? = some u → W.cell? (a.add j) = some u) : Reads W W.heap.size size (some a) n xs := by
 refine ⟨hl, fun hn => ⟨a, rfl, ?_, hc⟩⟩
 have h0 : 0 < xs.length := by rw [hl]; exact Nat.mul_pos hn hs
 have := World.block_lt_of_cell? W _ (hc 0 _ (List.getElem?_eq_getElem h0))
 rwa [block_of_add] at this
theorem read_ints {n : Nat} {cs : List Value} {x : DataW H × List MemPlace} (hfit : Fit 45 x.1) (h : DataW.trod enc Tryz.prog W 0 (fun _ => true) true n 45 cs = some x) :
  ∃ (l : List Int) (A : Option Addr) (c : Nat), cs = [.slice A l.length c] ∧ l.length ≤ c ∧ l.length ≤ 140737488351232 ∧ Reads W W.heap.size 1 A l.length (l.map iv) := by
 rcases open_ints Tryz.underlying45 Tryz.underlying3 cells_int h with ⟨hcs, _⟩ | ⟨a, len, cap, zs, hcs, _, hl, _, hz, hxe, hc, _⟩
 ·exact ⟨[], none, 0, hcs, by simp, by simp, Reads.none_⟩
 ·simp only [if_true] at hz
  have hm : cap ≤ 140737488351232 := by
   rw [hxe] at hfit
   have := (hfit.slice Tryz.underlying45).1
   rw [bytes_int] at this
   simp [lits] at this
   omega
  have hlen : (zs.take len).length = len := by rw [List.length_take]; omega
  refine ⟨zs.take len, some a, cap, by rw [hcs, hlen], by omega, by omega, reads_of (by simp) (by decide) ?_⟩
  intro j u hu
  rw [List.getElem?_map] at hu
  obtain ⟨z, hz1, rfl⟩ := Option.map_eq_some_iff.1 hu
  have hj : j < (zs.take len).length := (List.getElem?_eq_some_iff.1 hz1).1
  rw [hlen] at hj
  rw [hc j (by omega)]
  rw [List.getElem?_take_of_lt hj] at hz1
  simp [List.getD, hz1]
theorem read_strs {n : Nat} {cs : List Value} {x : DataW H × List MemPlace} (hfit : Fit 47 x.1) (h : DataW.trod enc Tryz.prog W 0 (fun _ => true) true n 47 cs = some x) :
  ∃ (l : List ByteArray) (A : Option Addr) (c : Nat), cs = [.slice A l.length c] ∧ l.length ≤ c ∧ l.length ≤ 140737488351232 ∧ Reads W W.heap.size 1 A l.length (l.map sv) ∧ ∀ s ∈ l, Fits s := by
 rcases open_strs Tryz.underlying47 Tryz.underlying9 cells_str h with ⟨hcs, _⟩ | ⟨a, len, cap, m, Sx, hcs, _, hl, _, hm, hxe, hi⟩
 ·exact ⟨[], none, 0, hcs, by simp, by simp, Reads.none_, fun s hs => by cases hs⟩
 ·simp only [if_true] at hm
  rw [hxe] at hfit
  obtain ⟨hw, hf⟩ := hfit.slice Tryz.underlying47
  rw [bytes_str] at hw
  simp at hw
  have hlen : ((List.range len).map Sx).length = len := by simp
  refine ⟨(List.range len).map Sx, some a, cap, by rw [hcs, hlen], by omega, by omega, reads_of (by simp) (by decide) ?_, ?_⟩
  ·intro j u hu
   rw [List.getElem?_map, List.getElem?_map] at hu
   obtain ⟨z, hz1, rfl⟩ := Option.map_eq_some_iff.1 hu
   obtain ⟨q, hq, rfl⟩ := Option.map_eq_some_iff.1 hz1
   have hj : j < len := by have := (List.getElem?_eq_some_iff.1 hq).1; simpa using this
   rw [List.getElem?_range hj] at hq
   injection hq with hq
   subst hq
   exact (hi j (by omega)).1
  ·intro s hs
   obtain ⟨i, hi2, rfl⟩ := List.mem_map.1 hs
   exact Fit.str (hf _ (List.mem_map.2 ⟨i, hi2, rfl⟩))
def sOf : Value → ByteArray
 | .string s => s
 | _ => nos
def nOf : Value → Int
 | .int _ n => n
 | _ => 0
theorem wv_at (f : Nat → ByteArray × Int) (len j : Nat) (u : Value) (h : (wv ((List.range len).map f))[j]? = some u) : ∃ i, i < len ∧ ((j = i * 2 ∧ u = .string (f i).1) ∨ (j = i * 2 + 1 ∧ u = iz (f i).2)) := by
 have hj : j < (wv ((List.range len).map f)).length := (List.getElem?_eq_some_iff.1 h).1
 rw [wv_length] at hj
 simp at hj
 have hi : j / 2 < len := by omega
 refine ⟨j / 2, hi, ?_⟩
 obtain ⟨g0, g1⟩ := wv_get ((List.range len).map f) (j / 2) (f (j / 2)) (by rw [List.getElem?_map, List.getElem?_range hi]; rfl)
 rcases Nat.mod_two_eq_zero_or_one j with e | e
 ·left
  have : j = j / 2 * 2 + 0 := by omega
  rw [this, g0] at h
  injection h with h
  exact ⟨by omega, h.symm⟩
 ·right
  have : j = j / 2 * 2 + 1 := by omega
  rw [this, g1] at h
  injection h with h
  exact ⟨by omega, h.symm⟩
theorem read_wishes {n : Nat} {cs : List Value} {x : DataW H × List MemPlace} (hfit : Fit 46 x.1) (h : DataW.trod enc Tryz.prog W 0 (fun _ => true) true n 46 cs = some x) :
  ∃ (l : List (ByteArray × Int)) (A : Option Addr) (c : Nat), cs = [.slice A l.length c] ∧ l.length ≤ c ∧ l.length ≤ 140737488351232 ∧ Reads W W.heap.size 2 A l.length (wv l) ∧ ∀ s ∈ l, Fits s.1 := by
 rcases open_slice_pairs Tryz.underlying46 Tryz.underlying161 cells_wish rfl rfl cells_str cells_int h with ⟨hcs, _⟩ | ⟨a, len, cap, m, k, V0, V1, D0, D1, P0, P1, hcs, _, hl, _, hm, hxe, hi⟩
 ·exact ⟨[], none, 0, hcs, by simp, by simp, Reads.none_, fun s hs => by cases hs⟩
 ·simp only [if_true] at hm
  rw [hxe] at hfit
  obtain ⟨hw, hf⟩ := hfit.slice Tryz.underlying46
  rw [bytes_wish] at hw
  simp at hw
  have each : ∀ i, i < m → V0 i = .string (sOf (V0 i)) ∧ V1 i = iz (nOf (V1 i)) ∧ D0 i = .lit (.string (sOf (V0 i)).data.toList) := by
   intro i hi2
   obtain ⟨_, _, t0, t1⟩ := hi i hi2
   obtain ⟨s, e0, x0, _⟩ := DataW.trod_string Tryz.underlying9 t0
   obtain ⟨z, e1, _, _⟩ := DataW.trod_int Tryz.underlying3 t1
   simp only [List.cons.injEq, and_true] at e0 e1
   simp only [Prod.mk.injEq] at x0
   rw [e0, e1, x0.1]
   exact ⟨rfl, rfl, rfl⟩
  have hlen : ((List.range len).map fun i => (sOf (V0 i), nOf (V1 i))).length = len := by simp
  refine ⟨(List.range len).map fun i => (sOf (V0 i), nOf (V1 i)), some a, cap, by rw [hcs, hlen], by omega, by omega, reads_of (wv_length _) (by decide) ?_, ?_⟩
  ·intro j u hu
   obtain ⟨i, hi2, ⟨rfl, rfl⟩ | ⟨rfl, rfl⟩⟩ := wv_at _ _ _ _ hu
   ·rw [← (each i (by omega)).1]; exact (hi i (by omega)).1
   ·rw [← (each i (by omega)).2.1]; exact (hi i (by omega)).2.1
  ·intro s hs
   obtain ⟨i, hi2, rfl⟩ := List.mem_map.1 hs
   have hi3 : i < len := by simpa using hi2
   have hd := hf _ (List.mem_map.2 ⟨i, hi2, rfl⟩)
   rw [(each i (by omega)).2.2] at hd
   refine Fit.str (H := H) fun n hn => hd n ?_
   have hw2 : DataW.weights Tryz.prog 161 (DataW.agg [DataW.lit (.string (sOf (V0 i)).data.toList), D1 i]) = DataW.weightsEach Tryz.prog [9, 3] [DataW.lit (.string (sOf (V0 i)).data.toList), D1 i] := by
    simp [DataW.weights, Tryz.underlying161]
   rw [hw2]
   exact DataW.weights_mem_each (j := 0) rfl rfl n hn
theorem read_mq {n : Nat} {cs : List Value} {x : DataW H × List MemPlace} (hlen : cs.length = 24) (hfit : Fit 49 x.1) (h : DataW.trod enc Tryz.prog W 0 (fun _ => true) true n 49 cs = some x) :
  ∃ (m : Mq) (vc vw vf : Value), cs = mqCells m vc vw vf ∧ MqL W W.heap.size m vc vw vf ∧ MqFit m := by
 match cs, hlen with
 | [k0, k1, k2, k3, k4, k5, k6, k7, k8, k9, k10, k11, k12, k13, k14, k15, k16, k17, k18, k19, k20, k21, k22, k23], _ =>
  obtain ⟨ysM, mM, _, exM, _, ylM, hfM⟩ := DataW.trod_struct Tryz.underlying49 h
  rw [exM] at hfit
  have fM_0 := hfM 0 _ rfl
  simp only [List.getElem_toArray, List.getElem_cons_zero, cells_int, List.drop_zero, List.take_succ_cons, List.take_zero] at fM_0
  rw [List.getElem?_eq_getElem (by rw [ylM]; decide)] at fM_0
  obtain ⟨kind, e_kind, _, _⟩ := DataW.trod_int Tryz.underlying3 fM_0
  simp only [List.cons.injEq, and_true] at e_kind
  subst e_kind
  have fM_1 := hfM 1 _ rfl
  simp only [List.getElem_toArray, List.getElem_cons_zero, List.getElem_cons_succ, cells_str, List.drop_zero, List.take_succ_cons, List.take_zero, List.drop_succ_cons] at fM_1
  rw [List.getElem?_eq_getElem (by rw [ylM]; decide)] at fM_1
  have gfM_1 := Fit.struct hfit Tryz.underlying49 1 _ rfl _ (List.getElem?_eq_getElem (by rw [ylM]; decide))
  obtain ⟨client, e_client, t_client⟩ := read_str gfM_1 fM_1
  simp only [List.cons.injEq, and_true] at e_client
  subst e_client
  have fM_2 := hfM 2 _ rfl
  simp only [List.getElem_toArray, List.getElem_cons_zero, List.getElem_cons_succ, cells_bool, List.drop_zero, List.take_succ_cons, List.take_zero, List.drop_succ_cons] at fM_2
  rw [List.getElem?_eq_getElem (by rw [ylM]; decide)] at fM_2
  obtain ⟨clean, e_clean, _⟩ := DataW.trod_bool Tryz.underlying4 fM_2
  simp only [List.cons.injEq, and_true] at e_clean
  subst e_clean
  have fM_3 := hfM 3 _ rfl
  simp only [List.getElem_toArray, List.getElem_cons_zero, List.getElem_cons_succ, cells_int, List.drop_zero, List.take_succ_cons, List.take_zero, List.drop_succ_cons] at fM_3
  rw [List.getElem?_eq_getElem (by rw [ylM]; decide)] at fM_3
  obtain ⟨keep, e_keep, _, _⟩ := DataW.trod_int Tryz.underlying3 fM_3
  simp only [List.cons.injEq, and_true] at e_keep
  subst e_keep
  have fM_4 := hfM 4 _ rfl
  simp only [List.getElem_toArray, List.getElem_cons_zero, List.getElem_cons_succ, cells_will, List.drop_zero, List.take_succ_cons, List.take_zero, List.drop_succ_cons] at fM_4
  rw [List.getElem?_eq_getElem (by rw [ylM]; decide)] at fM_4
  have gfM_4 := Fit.struct hfit Tryz.underlying49 4 _ rfl _ (List.getElem?_eq_getElem (by rw [ylM]; decide))
  obtain ⟨ysW, mW, _, exW, _, ylW, hfW⟩ := DataW.trod_struct Tryz.underlying44 fM_4
  rw [exW] at gfM_4
  have fW_0 := hfW 0 _ rfl
  simp only [List.getElem_toArray, List.getElem_cons_zero, cells_bool, List.drop_zero, List.take_succ_cons, List.take_zero] at fW_0
  rw [List.getElem?_eq_getElem (by rw [ylW]; decide)] at fW_0
  obtain ⟨won, e_won, _⟩ := DataW.trod_bool Tryz.underlying4 fW_0
  simp only [List.cons.injEq, and_true] at e_won
  subst e_won
  have fW_1 := hfW 1 _ rfl
  simp only [List.getElem_toArray, List.getElem_cons_zero, List.getElem_cons_succ, cells_str, List.drop_zero, List.take_succ_cons, List.take_zero, List.drop_succ_cons] at fW_1
  rw [List.getElem?_eq_getElem (by rw [ylW]; decide)] at fW_1
  have gfW_1 := Fit.struct gfM_4 Tryz.underlying44 1 _ rfl _ (List.getElem?_eq_getElem (by rw [ylW]; decide))
  obtain ⟨wt, e_wt, t_wt⟩ := read_str gfW_1 fW_1
  simp only [List.cons.injEq, and_true] at e_wt
  subst e_wt
  have fW_2 := hfW 2 _ rfl
  simp only [List.getElem_toArray, List.getElem_cons_zero, List.getElem_cons_succ, cells_str, List.drop_zero, List.take_succ_cons, List.take_zero, List.drop_succ_cons] at fW_2
  rw [List.getElem?_eq_getElem (by rw [ylW]; decide)] at fW_2
  have gfW_2 := Fit.struct gfM_4 Tryz.underlying44 2 _ rfl _ (List.getElem?_eq_getElem (by rw [ylW]; decide))
  obtain ⟨wp, e_wp, t_wp⟩ := read_str gfW_2 fW_2
  simp only [List.cons.injEq, and_true] at e_wp
  subst e_wp
  have fW_3 := hfW 3 _ rfl
  simp only [List.getElem_toArray, List.getElem_cons_zero, List.getElem_cons_succ, cells_int, List.drop_zero, List.take_succ_cons, List.take_zero, List.drop_succ_cons] at fW_3
  rw [List.getElem?_eq_getElem (by rw [ylW]; decide)] at fW_3
  obtain ⟨wq, e_wq, _, _⟩ := DataW.trod_int Tryz.underlying3 fW_3
  simp only [List.cons.injEq, and_true] at e_wq
  subst e_wq
  have fW_4 := hfW 4 _ rfl
  simp only [List.getElem_toArray, List.getElem_cons_zero, List.getElem_cons_succ, cells_bool, List.drop_zero, List.take_succ_cons, List.take_zero, List.drop_succ_cons] at fW_4
  rw [List.getElem?_eq_getElem (by rw [ylW]; decide)] at fW_4
  obtain ⟨wr, e_wr, _⟩ := DataW.trod_bool Tryz.underlying4 fW_4
  simp only [List.cons.injEq, and_true] at e_wr
  subst e_wr
  have fM_5 := hfM 5 _ rfl
  simp only [List.getElem_toArray, List.getElem_cons_zero, List.getElem_cons_succ, cells_str, List.drop_zero, List.take_succ_cons, List.take_zero, List.drop_succ_cons] at fM_5
  rw [List.getElem?_eq_getElem (by rw [ylM]; decide)] at fM_5
  have gfM_5 := Fit.struct hfit Tryz.underlying49 5 _ rfl _ (List.getElem?_eq_getElem (by rw [ylM]; decide))
  obtain ⟨user, e_user, t_user⟩ := read_str gfM_5 fM_5
  simp only [List.cons.injEq, and_true] at e_user
  subst e_user
  have fM_6 := hfM 6 _ rfl
  simp only [List.getElem_toArray, List.getElem_cons_zero, List.getElem_cons_succ, cells_bool, List.drop_zero, List.take_succ_cons, List.take_zero, List.drop_succ_cons] at fM_6
  rw [List.getElem?_eq_getElem (by rw [ylM]; decide)] at fM_6
  obtain ⟨hu, e_hu, _⟩ := DataW.trod_bool Tryz.underlying4 fM_6
  simp only [List.cons.injEq, and_true] at e_hu
  subst e_hu
  have fM_7 := hfM 7 _ rfl
  simp only [List.getElem_toArray, List.getElem_cons_zero, List.getElem_cons_succ, cells_str, List.drop_zero, List.take_succ_cons, List.take_zero, List.drop_succ_cons] at fM_7
  rw [List.getElem?_eq_getElem (by rw [ylM]; decide)] at fM_7
  have gfM_7 := Fit.struct hfit Tryz.underlying49 7 _ rfl _ (List.getElem?_eq_getElem (by rw [ylM]; decide))
  obtain ⟨pass, e_pass, t_pass⟩ := read_str gfM_7 fM_7
  simp only [List.cons.injEq, and_true] at e_pass
  subst e_pass
  have fM_8 := hfM 8 _ rfl
  simp only [List.getElem_toArray, List.getElem_cons_zero, List.getElem_cons_succ, cells_bool, List.drop_zero, List.take_succ_cons, List.take_zero, List.drop_succ_cons] at fM_8
  rw [List.getElem?_eq_getElem (by rw [ylM]; decide)] at fM_8
  obtain ⟨hp, e_hp, _⟩ := DataW.trod_bool Tryz.underlying4 fM_8
  simp only [List.cons.injEq, and_true] at e_hp
  subst e_hp
  have fM_9 := hfM 9 _ rfl
  simp only [List.getElem_toArray, List.getElem_cons_zero, List.getElem_cons_succ, cells_bool, List.drop_zero, List.take_succ_cons, List.take_zero, List.drop_succ_cons] at fM_9
  rw [List.getElem?_eq_getElem (by rw [ylM]; decide)] at fM_9
  obtain ⟨present, e_present, _⟩ := DataW.trod_bool Tryz.underlying4 fM_9
  simp only [List.cons.injEq, and_true] at e_present
  subst e_present
  have fM_10 := hfM 10 _ rfl
  simp only [List.getElem_toArray, List.getElem_cons_zero, List.getElem_cons_succ, cells_int, List.drop_zero, List.take_succ_cons, List.take_zero, List.drop_succ_cons] at fM_10
  rw [List.getElem?_eq_getElem (by rw [ylM]; decide)] at fM_10
  obtain ⟨code, e_code, _, _⟩ := DataW.trod_int Tryz.underlying3 fM_10
  simp only [List.cons.injEq, and_true] at e_code
  subst e_code
  have fM_11 := hfM 11 _ rfl
  simp only [List.getElem_toArray, List.getElem_cons_zero, List.getElem_cons_succ, cells_ints, List.drop_zero, List.take_succ_cons, List.take_zero, List.drop_succ_cons] at fM_11
  rw [List.getElem?_eq_getElem (by rw [ylM]; decide)] at fM_11
  have gfM_11 := Fit.struct hfit Tryz.underlying49 11 _ rfl _ (List.getElem?_eq_getElem (by rw [ylM]; decide))
  obtain ⟨codes, A1, c1, e_codes, l1, b1, r1⟩ := read_ints gfM_11 fM_11
  simp only [List.cons.injEq, and_true] at e_codes
  subst e_codes
  have fM_12 := hfM 12 _ rfl
  simp only [List.getElem_toArray, List.getElem_cons_zero, List.getElem_cons_succ, cells_bool, List.drop_zero, List.take_succ_cons, List.take_zero, List.drop_succ_cons] at fM_12
  rw [List.getElem?_eq_getElem (by rw [ylM]; decide)] at fM_12
  obtain ⟨dup, e_dup, _⟩ := DataW.trod_bool Tryz.underlying4 fM_12
  simp only [List.cons.injEq, and_true] at e_dup
  subst e_dup
  have fM_13 := hfM 13 _ rfl
  simp only [List.getElem_toArray, List.getElem_cons_zero, List.getElem_cons_succ, cells_int, List.drop_zero, List.take_succ_cons, List.take_zero, List.drop_succ_cons] at fM_13
  rw [List.getElem?_eq_getElem (by rw [ylM]; decide)] at fM_13
  obtain ⟨qos, e_qos, _, _⟩ := DataW.trod_int Tryz.underlying3 fM_13
  simp only [List.cons.injEq, and_true] at e_qos
  subst e_qos
  have fM_14 := hfM 14 _ rfl
  simp only [List.getElem_toArray, List.getElem_cons_zero, List.getElem_cons_succ, cells_bool, List.drop_zero, List.take_succ_cons, List.take_zero, List.drop_succ_cons] at fM_14
  rw [List.getElem?_eq_getElem (by rw [ylM]; decide)] at fM_14
  obtain ⟨retain, e_retain, _⟩ := DataW.trod_bool Tryz.underlying4 fM_14
  simp only [List.cons.injEq, and_true] at e_retain
  subst e_retain
  have fM_15 := hfM 15 _ rfl
  simp only [List.getElem_toArray, List.getElem_cons_zero, List.getElem_cons_succ, cells_str, List.drop_zero, List.take_succ_cons, List.take_zero, List.drop_succ_cons] at fM_15
  rw [List.getElem?_eq_getElem (by rw [ylM]; decide)] at fM_15
  have gfM_15 := Fit.struct hfit Tryz.underlying49 15 _ rfl _ (List.getElem?_eq_getElem (by rw [ylM]; decide))
  obtain ⟨topic, e_topic, t_topic⟩ := read_str gfM_15 fM_15
  simp only [List.cons.injEq, and_true] at e_topic
  subst e_topic
  have fM_16 := hfM 16 _ rfl
  simp only [List.getElem_toArray, List.getElem_cons_zero, List.getElem_cons_succ, cells_int, List.drop_zero, List.take_succ_cons, List.take_zero, List.drop_succ_cons] at fM_16
  rw [List.getElem?_eq_getElem (by rw [ylM]; decide)] at fM_16
  obtain ⟨id, e_id, _, _⟩ := DataW.trod_int Tryz.underlying3 fM_16
  simp only [List.cons.injEq, and_true] at e_id
  subst e_id
  have fM_17 := hfM 17 _ rfl
  simp only [List.getElem_toArray, List.getElem_cons_zero, List.getElem_cons_succ, cells_str, List.drop_zero, List.take_succ_cons, List.take_zero, List.drop_succ_cons] at fM_17
  rw [List.getElem?_eq_getElem (by rw [ylM]; decide)] at fM_17
  have gfM_17 := Fit.struct hfit Tryz.underlying49 17 _ rfl _ (List.getElem?_eq_getElem (by rw [ylM]; decide))
  obtain ⟨payload, e_payload, t_payload⟩ := read_str gfM_17 fM_17
  simp only [List.cons.injEq, and_true] at e_payload
  subst e_payload
  have fM_18 := hfM 18 _ rfl
  simp only [List.getElem_toArray, List.getElem_cons_zero, List.getElem_cons_succ, cells_wishes, List.drop_zero, List.take_succ_cons, List.take_zero, List.drop_succ_cons] at fM_18
  rw [List.getElem?_eq_getElem (by rw [ylM]; decide)] at fM_18
  have gfM_18 := Fit.struct hfit Tryz.underlying49 18 _ rfl _ (List.getElem?_eq_getElem (by rw [ylM]; decide))
  obtain ⟨wishes, A2, c2, e_wishes, l2, b2, r2, t_wishes⟩ := read_wishes gfM_18 fM_18
  simp only [List.cons.injEq, and_true] at e_wishes
  subst e_wishes
  have fM_19 := hfM 19 _ rfl
  simp only [List.getElem_toArray, List.getElem_cons_zero, List.getElem_cons_succ, cells_strs, List.drop_zero, List.take_succ_cons, List.take_zero, List.drop_succ_cons] at fM_19
  rw [List.getElem?_eq_getElem (by rw [ylM]; decide)] at fM_19
  have gfM_19 := Fit.struct hfit Tryz.underlying49 19 _ rfl _ (List.getElem?_eq_getElem (by rw [ylM]; decide))
  obtain ⟨filters, A3, c3, e_filters, l3, b3, r3, t_filters⟩ := read_strs gfM_19 fM_19
  simp only [List.cons.injEq, and_true] at e_filters
  subst e_filters
  exact ⟨{ kind := kind, client := client, clean := clean, keep := keep, won := won, wt := wt, wp := wp, wq := wq, wr := wr, user := user, hu := hu, pass := pass, hp := hp, present := present, code := code, codes := codes, dup := dup, qos := qos, retain := retain, topic := topic, id := id, payload := payload, wishes := wishes, filters := filters }, _, _, _, rfl, ⟨A1, c1, A2, c2, A3, c3, rfl, rfl, rfl, l1, l2, l3, b1, b2, b3, r1, r2, r3⟩, ⟨t_client, t_wt, t_wp, t_user, t_pass, t_topic, t_payload, t_wishes, t_filters⟩⟩
end
end
section
open Go.RowKit
theorem refWishes (l : List (ByteArray × Int)) (n : Nat) (hl : l.length = n) (hfit : ∀ s ∈ l, Fits s.1) (A : Option Addr) (c : Nat) (hn : n ≤ 140737488351232) (w : World) (hT : Wd w) (hr : Reads w w.heap.size 2 A n (wv l)) :
  Calls Tryz.prog 75 #[.slice A n c] w fun e w' => e = .returned (.bool (wishesOk l)) ∧ Below w.heap.size w w' := by
 have HF := Lib.hid (show wishesAll (l.drop 0) = wishesAll l from rfl)
 have KW := Lib.hid (fun x w1 => refNumB x 2 w1)
 have HO := Lib.hid (show wishesOk l = (wishesAll l && inRB n 1 8) by unfold wishesOk; rw [hl])
 generalize wishesOk l = Z at *
 have HL := Lib.hid hl
 have HFit := Lib.hid hfit
 have HR := Lib.hid hr
 have HT := Lib.hid hT
 clear hl hfit hr hT
 by_cases h1 : (n : Int) < 1
 ·have HP : Hid (inRB n 1 8 = false) := Lib.hid (by unfold inRB; rw [decide_eq_false (by omega)]; rfl)
  go_enter Tryz.func75, Tryz.ntmps75
  go_wp2
  go_ret
  exact ⟨by rw [HO.out, HP.out, Bool.and_false]; rfl, Below.refl _ _⟩
 by_cases h8 : (8 : Int) < n
 ·have HP : Hid (inRB n 1 8 = false) := Lib.hid (by unfold inRB; rw [decide_eq_false (show ¬ (n : Int) ≤ 8 by omega), Bool.and_false])
  go_enter Tryz.func75, Tryz.ntmps75
  go_wp2
  go_ret
  exact ⟨by rw [HO.out, HP.out, Bool.and_false]; rfl, Below.refl _ _⟩
 have HP : Hid (inRB n 1 8 = true) := inRB_iff.2 ⟨by omega, by omega⟩
 go_enter Tryz.func75, Tryz.ntmps75
 go_wp2
 go_loopw [3] (fun i wr => ∃ k : Nat, i = .int .i64 k ∧ k ≤ n ∧ Below w.heap.size w wr ∧ Hid (wishesAll (l.drop k) = wishesAll l)) (fun i _ => n - (intOf i).toNat)
 case atStart => exact ⟨0, rfl, Nat.zero_le _, Below.refl _ _, HF⟩
 case round =>
  obtain ⟨k, rfl, hk, hb, hf⟩ := hrel
  by_cases hlt : k < n
  ·obtain ⟨b, o, rfl, hblt, hcv⟩ := (HR.out.below hb).get2 hlt
   obtain ⟨x, hx⟩ : ∃ x, l[k]? = some x := ⟨l[k]'(by rw [HL.out]; omega), List.getElem?_eq_getElem _⟩
   obtain ⟨g0, g1⟩ := wv_get l k x hx
   have cv0 := hcv 0 _ (by omega) g0
   have cv1 := hcv 1 _ (by omega) g1
   rw [Nat.add_zero] at cv0
   have hd := drop_of hx
   have hf2 := hf.out
   rw [hd, wishesAll] at hf2
   have HB := Lib.hid hb
   have K := Lib.hid (refTextV x.1 (HFit.out x (List.mem_of_getElem? hx)) 1 64 wr (HT.out.below HB.out))
   have hlt2 : b < wr.heap.size := Nat.lt_of_lt_of_le hblt hb.size
   have HLT2 := Lib.hid hlt2
   have CV1 := Lib.hid cv1
   have K2 := Lib.hid (fun w1 => KW.out x.2 w1)
   clear cv1 hlt2 hblt
   cases h1 : textOk x.1 1 64 with
   | true =>
    rw [h1] at K hf2
    cases h2 : inRB x.2 0 2 with
    | true =>
     rw [h2] at K2 hf2
     have HQ : Hid (wishesAll (l.drop (k + 1)) = wishesAll l) := hf2
     clear hx hd hf2 hf hb h1 h2 g0 g1 hcv
     go_wp2_with (first
      | (go_at_call 71; (with_reducible refine K.out.mono ?_); rintro _ w2 ⟨rfl, hb2⟩; have HB2 := Lib.hid (HB.out.trans (hb2.mono HB.out.size)); have c1 := (cellB hb2 HLT2.out).trans CV1.out; clear hb2)
      | (go_at_call 24; (with_reducible refine (K2.out _).mono ?_); rintro _ w3 ⟨rfl, rfl⟩))
     go_roundw
     case rel => exact ⟨k + 1, by go_num, by omega, HB2.out, HQ⟩
     case measure => simp [intOf]; omega
    | false =>
     rw [h2] at K2 hf2
     have HQ : Hid (wishesAll l = false) := hf2.symm
     clear hx hd hf2 hf hb h1 h2 g0 g1 hcv
     go_wp2_with (first
      | (go_at_call 71; (with_reducible refine K.out.mono ?_); rintro _ w2 ⟨rfl, hb2⟩; have HB2 := Lib.hid (HB.out.trans (hb2.mono HB.out.size)); have c1 := (cellB hb2 HLT2.out).trans CV1.out; clear hb2)
      | (go_at_call 24; (with_reducible refine (K2.out _).mono ?_); rintro _ w3 ⟨rfl, rfl⟩))
     go_ret
     exact ⟨by rw [HO.out, HQ.out]; rfl, HB2.out⟩
   | false =>
    rw [h1] at K hf2
    have HQ : Hid (wishesAll l = false) := hf2.symm
    clear hx hd hf2 hf hb h1 g0 g1 hcv
    go_wp2_with (go_at_call 71; (with_reducible refine K.out.mono ?_); rintro _ w2 ⟨rfl, hb2⟩; have HB2 := Lib.hid (HB.out.trans (hb2.mono HB.out.size)); clear hb2)
    go_ret
    exact ⟨by rw [HO.out, HQ.out]; rfl, HB2.out⟩
  ·have HQ : Hid (wishesAll l = true) := by
    have := hf.out
    rw [List.drop_eq_nil_of_le (by rw [HL.out]; omega)] at this
    exact this.symm
   clear hf
   go_wp2
   go_ret
   exact ⟨by rw [HO.out, HP.out, HQ.out]; rfl, hb⟩
end
section
open Go.RowKit
theorem conn7 (a b c d e f g : Bool) : ((((((a && b) && c) && d) && e) && f) && g) = (a && (b && (c && (d && (f && (e && g)))))) := by
 cases a <;> cases b <;> cases c <;> cases d <;> cases e <;> cases f <;> cases g <;> rfl
theorem same_symm (a b : Mq) : Mq.same a b = Mq.same b a := by
 rw [Bool.eq_iff_iff, same_iff, same_iff]
 exact eq_comm
theorem pub_zero (m : Mq) (h : (m.qos == 0) = true) : publishOk m = ((((((textOk m.topic 1 64 && plainOf (sb m.topic)) && inRB m.qos 0 2) && decide ((m.payload.size : Int) ≤ 128)) && !m.dup)) && (m.id == 0)) := by
 have h0 : m.qos = 0 := by simpa using h
 unfold publishOk topicOk
 rw [h0]
 cases textOk m.topic 1 64 <;> cases plainOf (sb m.topic) <;> cases decide ((m.payload.size : Int) ≤ 128) <;> cases m.dup <;> cases (m.id == 0) <;> rfl
theorem pub_more (m : Mq) (h : (m.qos == 0) = false) : publishOk m = ((((textOk m.topic 1 64 && plainOf (sb m.topic)) && inRB m.qos 0 2) && decide ((m.payload.size : Int) ≤ 128)) && inRB m.id 1 65535) := by
 have h0 : ¬ m.qos = 0 := by simpa using h
 unfold publishOk topicOk
 cases hq : inRB m.qos 0 2 with
 | false => cases textOk m.topic 1 64 <;> cases plainOf (sb m.topic) <;> rfl
 | true =>
  have := inRB_iff.1 hq
  have h1 : decide (0 < m.qos) = true := by simp; omega
  rw [h, h1]
  cases textOk m.topic 1 64 <;> cases plainOf (sb m.topic) <;> cases decide ((m.payload.size : Int) ≤ 128) <;> cases inRB m.id 1 65535 <;> rfl
theorem list_and (a : Bool) (n : Nat) (c : Bool) : (((a && decide ((1 : Int) ≤ n)) && decide ((n : Int) ≤ 8)) && c) = (a && (c && inRB n 1 8)) := by
 unfold inRB
 cases a <;> cases decide ((1 : Int) ≤ n) <;> cases decide ((n : Int) ≤ 8) <;> cases c <;> rfl
theorem codesAll_snoc (l : List Int) (x : Int) : codesAll (l ++ [x]) = (codesAll l && (inRB x 0 2 || (x == 128))) := by
 induction l with
 | nil => simp [codesAll]
 | cons y l ih => rw [List.cons_append, codesAll, codesAll, ih, Bool.and_assoc]
theorem filtersAll_snoc (l : List ByteArray) (x : ByteArray) : filtersAll (l ++ [x]) = (filtersAll l && textOk x 1 64) := by
 induction l with
 | nil => simp [filtersAll]
 | cons y l ih => rw [List.cons_append, filtersAll, filtersAll, ih, Bool.and_assoc]
theorem refMay (m : Mq) (vc vw vf : Value) (w : World) (hL : MqL w w.heap.size m vc vw vf) (hF : MqFit m) (hW : Wd w) :
  Calls Tryz.prog 34 #[.agg (mqCells m vc vw vf).toArray] w fun e w' => e = .returned (.bool (mayBb m)) ∧ Below w.heap.size w w' := by
 obtain ⟨A1, c1, A2, c2, A3, c3, rfl, rfl, rfl, l1, l2, l3, k1', k2', k3', r1, r2, r3⟩ := id hL
 go_enter Tryz.func34, Tryz.ntmps34
 refine Has.start 289 [(0, .agg (mqCells m (.slice A1 m.codes.length c1) (.slice A2 m.wishes.length c2) (.slice A3 m.filters.length c3)).toArray)] rfl rfl ⟨rfl, trivial⟩ ?_
 intro a0 H0
 have O0 := Own.start w
 refine rl ?_
 refine H0.bx O0 1 fun a2 w1 O1 H2 => nt ?_
 refine H2.rg 1 fun a3 H3 => ?_
 refine H3.ld 0 (O1.li 0 0) fun a4 H4 => ?_
 refine H4.any (w' := w1) gz rfl rfl (.agg (mqCells (mq0 m.kind) nilV nilV nilV).toArray) (by intro cs b h; cases h) (by kernel_rfl) (by kernel_rfl) ?_
 intro a5 H5
 refine H5.al O1 0 zero_mq fun a6 w2 O2 H6 => ?_
 refine H6.st O2 0 0 (hi := size_mq) fun a7 w3 O3 H7 => nt ?_
 refine H7.rg 1 fun a8 H8 => nt ?_
 refine wp_seq_join (fun a w' => ∃ vc' vw' vf', Has a 289 [(1, pz w.heap.size), (3, pz w1.heap.size), (4, .bool (okOf m))] ∧ MqL w' w'.heap.size (onlyOf m) vc' vw' vf' ∧ Own w w.heap.size [(w1.heap.size, mqCells (onlyOf m) vc' vw' vf'), (w.heap.size, (mqCells m (.slice A1 m.codes.length c1) (.slice A2 m.wishes.length c2) (.slice A3 m.filters.length c3)))] w') ?_ ?_
 ·skip
  refine H8.rg 1 fun a9 H9 => ?_
  refine H9.ld 0 (O3.li 1 0) fun a10 H10 => nt ?_
  refine wp_block ?_
  have hk0 : True := trivial
  obtain ⟨b1, h1⟩ : ∃ b, (m.kind == 1) = b := ⟨_, rfl⟩
  cases b1 with
  | true =>
   have k1 : m.kind = 1 := by simpa using h1
   refine rl ?_
   refine H10.bn 1 (eql_iB _ _ _ h1 _ _ _) fun a12 H12 => nt ?_
   refine H12.condT rfl ?_
   have ho : onlyOf m = { mq0 m.kind with client := m.client, clean := m.clean, keep := m.keep, won := m.won, wt := m.wt, wp := m.wp, wq := m.wq, wr := m.wr, user := m.user, hu := m.hu, pass := m.pass, hp := m.hp } := by unfold onlyOf; rw [if_pos k1]
   have hq : okOf m = connectOk m := by unfold okOf; rw [if_pos k1]
   repeat (refine wp_seq ?_)
   refine H12.ds O3 0 [1, 3, 4] rfl [ec 0 14 (.pointer (some ⟨w.heap.size, 1, none⟩)), ec 1 15 (.string m.client), ec 2 16 (.pointer (some ⟨w.heap.size, 2, none⟩)), ec 3 17 (.bool m.clean), ec 4 18 (.pointer (some ⟨w.heap.size, 3, none⟩)), ec 5 19 (iz m.keep), ec 6 20 (.pointer (some ⟨w.heap.size, 4, none⟩)), ec 7 21 (.agg #[.bool m.won, .string m.wt, .string m.wp, iz m.wq, .bool m.wr]), ec 8 22 (.pointer (some ⟨w.heap.size, 9, none⟩)), ec 9 23 (.string m.user), ec 10 24 (.pointer (some ⟨w.heap.size, 10, none⟩)), ec 11 25 (.bool m.hu), ec 12 26 (.pointer (some ⟨w.heap.size, 11, none⟩)), ec 13 27 (.string m.pass), ec 14 28 (.pointer (some ⟨w.heap.size, 12, none⟩)), ec 15 29 (.bool m.hp), ec 16 30 (.pointer (some ⟨w1.heap.size, 1, none⟩)), ec 18 31 (.pointer (some ⟨w1.heap.size, 2, none⟩)), ec 20 32 (.pointer (some ⟨w1.heap.size, 3, none⟩)), ec 22 33 (.pointer (some ⟨w1.heap.size, 4, none⟩)), ec 24 34 (.pointer (some ⟨w1.heap.size, 9, none⟩)), ec 26 35 (.pointer (some ⟨w1.heap.size, 10, none⟩)), ec 28 36 (.pointer (some ⟨w1.heap.size, 11, none⟩)), ec 30 37 (.pointer (some ⟨w1.heap.size, 12, none⟩))] [⟨31, 12, [(.bool m.hp)]⟩, ⟨29, 11, [(.string m.pass)]⟩, ⟨27, 10, [(.bool m.hu)]⟩, ⟨25, 9, [(.string m.user)]⟩, ⟨23, 4, [.bool m.won, .string m.wt, .string m.wp, iz m.wq, .bool m.wr]⟩, ⟨21, 3, [(iz m.keep)]⟩, ⟨19, 2, [(.bool m.clean)]⟩, ⟨17, 1, [(.string m.client)]⟩] rfl rfl ⟨jm, jl fun _ ⟨_, _, h⟩ => load1_s _ _ _ _ ((h.get 1 rfl).get 1 _ rfl), jm, jl fun _ ⟨_, _, h⟩ => load1_b _ _ _ _ ((h.get 1 rfl).get 2 _ rfl), jm, jl fun _ ⟨_, _, h⟩ => load1_i _ _ _ _ ((h.get 1 rfl).get 3 _ rfl), jm, jl fun _ ⟨_, _, h⟩ => load_will _ _ _ _ _ _ _ _ (h.get 1 rfl) rfl rfl rfl rfl rfl, jm, jl fun _ ⟨_, _, h⟩ => load1_s _ _ _ _ ((h.get 1 rfl).get 9 _ rfl), jm, jl fun _ ⟨_, _, h⟩ => load1_b _ _ _ _ ((h.get 1 rfl).get 10 _ rfl), jm, jl fun _ ⟨_, _, h⟩ => load1_s _ _ _ _ ((h.get 1 rfl).get 11 _ rfl), jm, jl fun _ ⟨_, _, h⟩ => load1_b _ _ _ _ ((h.get 1 rfl).get 12 _ rfl), jm, jm, jm, jm, jm, jm, jm, jm, trivial⟩ ⟨q1 fun _ u h f => store1_b _ _ _ u _ h f, q1 fun _ u h f => store1_s _ _ _ u _ h f, q1 fun _ u h f => store1_b _ _ _ u _ h f, q1 fun _ u h f => store1_s _ _ _ u _ h f, q5, q1 fun _ u h f => store1_i _ _ _ u _ h f, q1 fun _ u h f => store1_b _ _ _ u _ h f, q1 fun _ u h f => store1_s _ _ _ u _ h f, trivial⟩ ?_
   intro a13 w4 H13 O4
   have O4 : Own w w.heap.size [(w1.heap.size, (mqCells (onlyOf m) nilV nilV nilV)), (w.heap.size, (mqCells m (.slice A1 m.codes.length c1) (.slice A2 m.wishes.length c2) (.slice A3 m.filters.length c3)))] w4 := by rw [ho]; exact O4
   refine then_normal ?_
   refine rl ?_
   refine wpList_cut 4 (fun a' w' => ∃ b, textOk m.client 0 23 = b ∧ Has a' 289 [(1, pz w.heap.size), (3, pz w1.heap.size), (41, .bool b)] ∧ Own w w.heap.size [(w1.heap.size, (mqCells (onlyOf m) nilV nilV nilV)), (w.heap.size, (mqCells m (.slice A1 m.codes.length c1) (.slice A2 m.wishes.length c2) (.slice A3 m.filters.length c3)))] w') ?_ ?_
   ·skip
    refine H13.ms 1 fun a14 H14 => ?_
    refine H14.ld 0 (O4.ls 1 1) fun a15 H15 => ?_
    refine H15.cl (belowC (refTextV m.client hF.client 0 23 _ (hW.below O4.bel))) ?_
    rintro a16 _ w5 ⟨rfl, hb⟩ H16
    have O5 := O4.call hb
    clear hb
    refine H16.ms 1 fun a17 H17 => ?_
    exact nt ⟨_, by rfl, H17.keep ⟨rfl, rfl, rfl, trivial⟩, O5⟩
   rintro a14 w5 ⟨v41, q41, H14, O5⟩
   refine wpList_cut 5 (fun a' w' => ∃ b, (textOk m.client 0 23 && inRB m.keep 0 65535) = b ∧ Has a' 289 [(1, pz w.heap.size), (3, pz w1.heap.size), (46, .bool b)] ∧ Own w w.heap.size [(w1.heap.size, (mqCells (onlyOf m) nilV nilV nilV)), (w.heap.size, (mqCells m (.slice A1 m.codes.length c1) (.slice A2 m.wishes.length c2) (.slice A3 m.filters.length c3)))] w') ?_ ?_
   ·skip
    cases v41 with
    | false =>
     refine H14.offs 3 rfl ?_
     intro a15 H15
     refine H15.pick gz rfl rfl rfl rfl rfl ?_
     intro a16 H16
     refine H16.ms 1 fun a17 H17 => ?_
     exact nt ⟨_, by rw [q41] <;> rfl, H17.keep ⟨rfl, rfl, rfl, trivial⟩, O5⟩
    | true =>
     refine H14.field (H14.wt rfl rfl rfl) rfl rfl rfl rfl field_3 ?_
     intro a15 H15
     refine H15.load (H15.wt rfl rfl rfl) rfl rfl rfl rfl (load1_i _ _ _ _ ((O5.get 1 rfl).get 3 _ rfl)) ?_
     intro a16 H16
     refine H16.call (H16.wt rfl rfl rfl) rfl rfl rfl rfl (fun _ _ => by kernel_rfl) (quietC (refNumB m.keep 65535 _)) ?_
     rintro a17 _ _ ⟨rfl, rfl⟩ H17
     refine H17.pick gz rfl rfl rfl rfl rfl ?_
     intro a18 H18
     refine H18.ms 1 fun a19 H19 => ?_
     exact nt ⟨_, by rw [q41] <;> rfl, H19.keep ⟨rfl, rfl, rfl, trivial⟩, O5⟩
   rintro a15 w6 ⟨v46, q46, H15, O6⟩
   refine wpList_cut 5 (fun a' w' => ∃ b, ((textOk m.client 0 23 && inRB m.keep 0 65535) && willB2 m.won m.wt m.wp m.wq m.wr) = b ∧ Has a' 289 [(1, pz w.heap.size), (3, pz w1.heap.size), (51, .bool b)] ∧ Own w w.heap.size [(w1.heap.size, (mqCells (onlyOf m) nilV nilV nilV)), (w.heap.size, (mqCells m (.slice A1 m.codes.length c1) (.slice A2 m.wishes.length c2) (.slice A3 m.filters.length c3)))] w') ?_ ?_
   ·skip
    cases v46 with
    | false =>
     refine H15.offs 3 rfl ?_
     intro a16 H16
     refine H16.pick gz rfl rfl rfl rfl rfl ?_
     intro a17 H17
     refine H17.ms 1 fun a18 H18 => ?_
     exact nt ⟨_, by rw [q46] <;> rfl, H18.keep ⟨rfl, rfl, rfl, trivial⟩, O6⟩
    | true =>
     refine H15.field (H15.wt rfl rfl rfl) rfl rfl rfl rfl field_4 ?_
     intro a16 H16
     refine H16.load (H16.wt rfl rfl rfl) rfl rfl rfl rfl (load_will _ _ _ _ _ _ _ _ (O6.get 1 rfl) rfl rfl rfl rfl rfl) ?_
     intro a17 H17
     refine H17.call (H17.wt rfl rfl rfl) rfl rfl rfl rfl (fun _ _ => by kernel_rfl) (belowC (refWillV m.won m.wt m.wp m.wq m.wr hF.wt _ (hW.below O6.bel))) ?_
     rintro a18 _ w7 ⟨rfl, hb⟩ H18
     have O7 := O6.call hb
     clear hb
     refine H18.pick gz rfl rfl rfl rfl rfl ?_
     intro a19 H19
     refine H19.ms 1 fun a20 H20 => ?_
     exact nt ⟨_, by rw [q46] <;> rfl, H20.keep ⟨rfl, rfl, rfl, trivial⟩, O7⟩
   rintro a16 w7 ⟨v51, q51, H16, O7⟩
   refine wpList_cut 5 (fun a' w' => ∃ b, (((textOk m.client 0 23 && inRB m.keep 0 65535) && willB2 m.won m.wt m.wp m.wq m.wr) && textOk m.user 0 64) = b ∧ Has a' 289 [(1, pz w.heap.size), (3, pz w1.heap.size), (56, .bool b)] ∧ Own w w.heap.size [(w1.heap.size, (mqCells (onlyOf m) nilV nilV nilV)), (w.heap.size, (mqCells m (.slice A1 m.codes.length c1) (.slice A2 m.wishes.length c2) (.slice A3 m.filters.length c3)))] w') ?_ ?_
   ·skip
    cases v51 with
    | false =>
     refine H16.offs 3 rfl ?_
     intro a17 H17
     refine H17.pick gz rfl rfl rfl rfl rfl ?_
     intro a18 H18
     refine H18.ms 1 fun a19 H19 => ?_
     exact nt ⟨_, by rw [q51] <;> rfl, H19.keep ⟨rfl, rfl, rfl, trivial⟩, O7⟩
    | true =>
     refine H16.field (H16.wt rfl rfl rfl) rfl rfl rfl rfl field_5 ?_
     intro a17 H17
     refine H17.load (H17.wt rfl rfl rfl) rfl rfl rfl rfl (load1_s _ _ _ _ ((O7.get 1 rfl).get 9 _ rfl)) ?_
     intro a18 H18
     refine H18.call (H18.wt rfl rfl rfl) rfl rfl rfl rfl (fun _ _ => by kernel_rfl) (belowC (refTextV m.user hF.user 0 64 _ (hW.below O7.bel))) ?_
     rintro a19 _ w8 ⟨rfl, hb⟩ H19
     have O8 := O7.call hb
     clear hb
     refine H19.pick gz rfl rfl rfl rfl rfl ?_
     intro a20 H20
     refine H20.ms 1 fun a21 H21 => ?_
     exact nt ⟨_, by rw [q51] <;> rfl, H21.keep ⟨rfl, rfl, rfl, trivial⟩, O8⟩
   rintro a17 w8 ⟨v56, q56, H17, O8⟩
   refine wpList_cut 14 (fun a' w' => ∃ b, ((((textOk m.client 0 23 && inRB m.keep 0 65535) && willB2 m.won m.wt m.wp m.wq m.wr) && textOk m.user 0 64) && (m.hu || (emp m.user && !m.hp))) = b ∧ Has a' 289 [(1, pz w.heap.size), (3, pz w1.heap.size), (70, .bool b)] ∧ Own w w.heap.size [(w1.heap.size, (mqCells (onlyOf m) nilV nilV nilV)), (w.heap.size, (mqCells m (.slice A1 m.codes.length c1) (.slice A2 m.wishes.length c2) (.slice A3 m.filters.length c3)))] w') ?_ ?_
   ·skip
    cases v56 with
    | false =>
     refine H17.offs 12 rfl ?_
     intro a18 H18
     refine H18.pick gz rfl rfl rfl rfl rfl ?_
     intro a19 H19
     refine H19.ms 1 fun a20 H20 => ?_
     exact nt ⟨_, by rw [q56] <;> rfl, H20.keep ⟨rfl, rfl, rfl, trivial⟩, O8⟩
    | true =>
     refine H17.field (H17.wt rfl rfl rfl) rfl rfl rfl rfl field_6 ?_
     intro a18 H18
     refine H18.load (H18.wt rfl rfl rfl) rfl rfl rfl rfl (load1_b _ _ _ _ ((O8.get 1 rfl).get 10 _ rfl)) ?_
     intro a19 H19
     refine H19.move (H19.wt rfl rfl rfl) (.inl rfl) rfl rfl rfl ?_
     intro a20 H20
     obtain ⟨v59, q59⟩ : ∃ b, m.hu = b := ⟨_, rfl⟩
     rw [q59] at H20
     cases v59 with
     | false =>
      refine H20.field (H20.wt rfl rfl rfl) rfl rfl rfl rfl field_5 ?_
      intro a21 H21
      refine H21.load (H21.wt rfl rfl rfl) rfl rfl rfl rfl (load1_s _ _ _ _ ((O8.get 1 rfl).get 9 _ rfl)) ?_
      intro a22 H22
      refine H22.bin (H22.wt rfl rfl rfl) rfl rfl rfl rfl rfl (eql_e _ _ _ _) ?_
      intro a23 H23
      refine H23.move (H23.wt rfl rfl rfl) (.inl rfl) rfl rfl rfl ?_
      intro a24 H24
      obtain ⟨v63, q63⟩ : ∃ b, emp m.user = b := ⟨_, rfl⟩
      rw [q63] at H24
      cases v63 with
      | false =>
       refine H24.offs 3 rfl ?_
       intro a25 H25
       refine H25.pick (H25.wt rfl rfl rfl) rfl rfl rfl rfl rfl ?_
       intro a26 H26
       refine H26.pick (H26.wt rfl rfl rfl) rfl rfl rfl rfl rfl ?_
       intro a27 H27
       refine H27.pick gz rfl rfl rfl rfl rfl ?_
       intro a28 H28
       refine H28.ms 1 fun a29 H29 => ?_
       exact nt ⟨_, by rw [q56, q59, q63] <;> rfl, H29.keep ⟨rfl, rfl, rfl, trivial⟩, O8⟩
      | true =>
       refine H24.field (H24.wt rfl rfl rfl) rfl rfl rfl rfl field_8 ?_
       intro a25 H25
       refine H25.load (H25.wt rfl rfl rfl) rfl rfl rfl rfl (load1_b _ _ _ _ ((O8.get 1 rfl).get 12 _ rfl)) ?_
       intro a26 H26
       refine H26.un (H26.wt rfl rfl rfl) rfl rfl rfl rfl rfl ?_
       intro a27 H27
       refine H27.pick (H27.wt rfl rfl rfl) rfl rfl rfl rfl rfl ?_
       intro a28 H28
       refine H28.pick (H28.wt rfl rfl rfl) rfl rfl rfl rfl rfl ?_
       intro a29 H29
       refine H29.pick gz rfl rfl rfl rfl rfl ?_
       intro a30 H30
       refine H30.ms 1 fun a31 H31 => ?_
       exact nt ⟨_, by rw [q56, q59, q63] <;> rfl, H31.keep ⟨rfl, rfl, rfl, trivial⟩, O8⟩
     | true =>
      refine H20.offs 8 rfl ?_
      intro a21 H21
      refine H21.pick (H21.wt rfl rfl rfl) rfl rfl rfl rfl rfl ?_
      intro a22 H22
      refine H22.pick gz rfl rfl rfl rfl rfl ?_
      intro a23 H23
      refine H23.ms 1 fun a24 H24 => ?_
      exact nt ⟨_, by rw [q56, q59] <;> rfl, H24.keep ⟨rfl, rfl, rfl, trivial⟩, O8⟩
   rintro a18 w9 ⟨v70, q70, H18, O9⟩
   refine wpList_cut 6 (fun a' w' => ∃ b, (((((textOk m.client 0 23 && inRB m.keep 0 65535) && willB2 m.won m.wt m.wp m.wq m.wr) && textOk m.user 0 64) && (m.hu || (emp m.user && !m.hp))) && decide ((m.pass.size : Int) ≤ 64)) = b ∧ Has a' 289 [(1, pz w.heap.size), (3, pz w1.heap.size), (76, .bool b)] ∧ Own w w.heap.size [(w1.heap.size, (mqCells (onlyOf m) nilV nilV nilV)), (w.heap.size, (mqCells m (.slice A1 m.codes.length c1) (.slice A2 m.wishes.length c2) (.slice A3 m.filters.length c3)))] w') ?_ ?_
   ·skip
    cases v70 with
    | false =>
     refine H18.offs 4 rfl ?_
     intro a19 H19
     refine H19.pick gz rfl rfl rfl rfl rfl ?_
     intro a20 H20
     refine H20.ms 1 fun a21 H21 => ?_
     exact nt ⟨_, by rw [q70] <;> rfl, H21.keep ⟨rfl, rfl, rfl, trivial⟩, O9⟩
    | true =>
     refine H18.field (H18.wt rfl rfl rfl) rfl rfl rfl rfl field_7 ?_
     intro a19 H19
     refine H19.load (H19.wt rfl rfl rfl) rfl rfl rfl rfl (load1_s _ _ _ _ ((O9.get 1 rfl).get 11 _ rfl)) ?_
     intro a20 H20
     refine H20.lenS (H20.wt rfl rfl rfl) rfl rfl rfl rfl Tryz.underlying9 ?_
     intro a21 H21
     refine H21.bin (H21.wt rfl rfl rfl) rfl rfl rfl rfl rfl (leq_i _ _ _ rfl _ _ _) ?_
     intro a22 H22
     refine H22.pick gz rfl rfl rfl rfl rfl ?_
     intro a23 H23
     refine H23.ms 1 fun a24 H24 => ?_
     exact nt ⟨_, by rw [q70] <;> rfl, H24.keep ⟨rfl, rfl, rfl, trivial⟩, O9⟩
   rintro a19 w10 ⟨v76, q76, H19, O10⟩
   refine wpList_cut 8 (fun a' w' => ∃ b, ((((((textOk m.client 0 23 && inRB m.keep 0 65535) && willB2 m.won m.wt m.wp m.wq m.wr) && textOk m.user 0 64) && (m.hu || (emp m.user && !m.hp))) && decide ((m.pass.size : Int) ≤ 64)) && (m.hp || emp m.pass)) = b ∧ Has a' 289 [(1, pz w.heap.size), (3, pz w1.heap.size), (84, .bool b)] ∧ Own w w.heap.size [(w1.heap.size, (mqCells (onlyOf m) nilV nilV nilV)), (w.heap.size, (mqCells m (.slice A1 m.codes.length c1) (.slice A2 m.wishes.length c2) (.slice A3 m.filters.length c3)))] w') ?_ ?_
   ·skip
    cases v76 with
    | false =>
     refine H19.offs 7 rfl ?_
     intro a20 H20
     refine H20.pick gz rfl rfl rfl rfl rfl ?_
     intro a21 H21
     exact nt ⟨_, by rw [q76] <;> rfl, H21.keep ⟨rfl, rfl, rfl, trivial⟩, O10⟩
    | true =>
     refine H19.field (H19.wt rfl rfl rfl) rfl rfl rfl rfl field_8 ?_
     intro a20 H20
     refine H20.load (H20.wt rfl rfl rfl) rfl rfl rfl rfl (load1_b _ _ _ _ ((O10.get 1 rfl).get 12 _ rfl)) ?_
     intro a21 H21
     refine H21.move (H21.wt rfl rfl rfl) (.inl rfl) rfl rfl rfl ?_
     intro a22 H22
     obtain ⟨v79, q79⟩ : ∃ b, m.hp = b := ⟨_, rfl⟩
     rw [q79] at H22
     cases v79 with
     | false =>
      refine H22.field (H22.wt rfl rfl rfl) rfl rfl rfl rfl field_7 ?_
      intro a23 H23
      refine H23.load (H23.wt rfl rfl rfl) rfl rfl rfl rfl (load1_s _ _ _ _ ((O10.get 1 rfl).get 11 _ rfl)) ?_
      intro a24 H24
      refine H24.bin (H24.wt rfl rfl rfl) rfl rfl rfl rfl rfl (eql_e _ _ _ _) ?_
      intro a25 H25
      refine H25.pick (H25.wt rfl rfl rfl) rfl rfl rfl rfl rfl ?_
      intro a26 H26
      refine H26.pick gz rfl rfl rfl rfl rfl ?_
      intro a27 H27
      exact nt ⟨_, by rw [q76, q79] <;> rfl, H27.keep ⟨rfl, rfl, rfl, trivial⟩, O10⟩
     | true =>
      refine H22.offs 3 rfl ?_
      intro a23 H23
      refine H23.pick (H23.wt rfl rfl rfl) rfl rfl rfl rfl rfl ?_
      intro a24 H24
      refine H24.pick gz rfl rfl rfl rfl rfl ?_
      intro a25 H25
      exact nt ⟨_, by rw [q76, q79] <;> rfl, H25.keep ⟨rfl, rfl, rfl, trivial⟩, O10⟩
   rintro a20 w11 ⟨v84, q84, H20, O11⟩
   refine H20.ms 1 fun a21 H21 => ?_
   refine wpList_nil ?_
   refine block_normal ?_
   refine then_normal ?_
   exact ⟨nilV, nilV, nilV, (by rw [hq, show connectOk m = v84 from (conn7 _ _ _ _ _ _ _).symm.trans q84]; exact H21.keep ⟨rfl, rfl, rfl, trivial⟩), MqL.nil (by rw [ho] <;> rfl) (by rw [ho] <;> rfl) (by rw [ho] <;> rfl), O11⟩
  | false =>
   have k1 : ¬ m.kind = 1 := by simpa using h1
   refine rl ?_
   refine H10.bn 1 (eql_iB _ _ _ h1 _ _ _) fun a12 H12 => nt ?_
   refine H12.condF rfl ?_
   obtain ⟨b2, h2⟩ : ∃ b, (m.kind == 2) = b := ⟨_, rfl⟩
   cases b2 with
   | true =>
    have k2 : m.kind = 2 := by simpa using h2
    refine rl ?_
    refine H12.bn 1 (eql_iB _ _ _ h2 _ _ _) fun a14 H14 => nt ?_
    refine H14.condT rfl ?_
    have ho : onlyOf m = { mq0 m.kind with present := m.present, code := m.code } := by unfold onlyOf; rw [if_neg k1, if_pos k2]
    have hq : okOf m = (inRB m.code 0 5 && (!m.present || m.code == 0)) := by unfold okOf; rw [if_neg k1, if_pos k2]
    repeat (refine wp_seq ?_)
    refine H14.ds O3 0 [1, 3, 4] rfl [ec 0 87 (.pointer (some ⟨w.heap.size, 13, none⟩)), ec 1 88 (.bool m.present), ec 2 89 (.pointer (some ⟨w.heap.size, 14, none⟩)), ec 3 90 (iz m.code), ec 4 91 (.pointer (some ⟨w1.heap.size, 13, none⟩)), ec 6 92 (.pointer (some ⟨w1.heap.size, 14, none⟩))] [⟨7, 14, [(iz m.code)]⟩, ⟨5, 13, [(.bool m.present)]⟩] rfl rfl ⟨jm, jl fun _ ⟨_, _, h⟩ => load1_b _ _ _ _ ((h.get 1 rfl).get 13 _ rfl), jm, jl fun _ ⟨_, _, h⟩ => load1_i _ _ _ _ ((h.get 1 rfl).get 14 _ rfl), jm, jm, trivial⟩ ⟨q1 fun _ u h f => store1_i _ _ _ u _ h f, q1 fun _ u h f => store1_b _ _ _ u _ h f, trivial⟩ ?_
    intro a15 w4 H15 O4
    have O4 : Own w w.heap.size [(w1.heap.size, (mqCells (onlyOf m) nilV nilV nilV)), (w.heap.size, (mqCells m (.slice A1 m.codes.length c1) (.slice A2 m.wishes.length c2) (.slice A3 m.filters.length c3)))] w4 := by rw [ho]; exact O4
    refine then_normal ?_
    refine rl ?_
    refine wpList_cut 4 (fun a' w' => ∃ b, inRB m.code 0 5 = b ∧ Has a' 289 [(1, pz w.heap.size), (3, pz w1.heap.size), (96, .bool b)] ∧ Own w w.heap.size [(w1.heap.size, (mqCells (onlyOf m) nilV nilV nilV)), (w.heap.size, (mqCells m (.slice A1 m.codes.length c1) (.slice A2 m.wishes.length c2) (.slice A3 m.filters.length c3)))] w') ?_ ?_
    ·skip
     refine H15.ms 1 fun a16 H16 => ?_
     refine H16.ld 0 (O4.li 1 14) fun a17 H17 => ?_
     refine H17.cq 1 (refNumB m.code 5 _) fun a19 H19 => ?_
     exact nt ⟨_, by rfl, H19.keep ⟨rfl, rfl, rfl, trivial⟩, O4⟩
    rintro a16 w5 ⟨v96, q96, H16, O5⟩
    refine wpList_cut 9 (fun a' w' => ∃ b, (inRB m.code 0 5 && ((m.code == 0) || !m.present)) = b ∧ Has a' 289 [(1, pz w.heap.size), (3, pz w1.heap.size), (105, .bool b)] ∧ Own w w.heap.size [(w1.heap.size, (mqCells (onlyOf m) nilV nilV nilV)), (w.heap.size, (mqCells m (.slice A1 m.codes.length c1) (.slice A2 m.wishes.length c2) (.slice A3 m.filters.length c3)))] w') ?_ ?_
    ·skip
     cases v96 with
     | false =>
      refine H16.offs 8 rfl ?_
      intro a17 H17
      refine H17.pick gz rfl rfl rfl rfl rfl ?_
      intro a18 H18
      exact nt ⟨_, by rw [q96] <;> rfl, H18.keep ⟨rfl, rfl, rfl, trivial⟩, O5⟩
     | true =>
      refine H16.field (H16.wt rfl rfl rfl) rfl rfl rfl rfl field_10 ?_
      intro a17 H17
      refine H17.load (H17.wt rfl rfl rfl) rfl rfl rfl rfl (load1_i _ _ _ _ ((O5.get 1 rfl).get 14 _ rfl)) ?_
      intro a18 H18
      refine H18.bin (H18.wt rfl rfl rfl) rfl rfl rfl rfl rfl (eql_i _ _ _ _ _) ?_
      intro a19 H19
      refine H19.move (H19.wt rfl rfl rfl) (.inl rfl) rfl rfl rfl ?_
      intro a20 H20
      obtain ⟨v100, q100⟩ : ∃ b, (m.code == 0) = b := ⟨_, rfl⟩
      rw [q100] at H20
      cases v100 with
      | false =>
       refine H20.field (H20.wt rfl rfl rfl) rfl rfl rfl rfl field_9 ?_
       intro a21 H21
       refine H21.load (H21.wt rfl rfl rfl) rfl rfl rfl rfl (load1_b _ _ _ _ ((O5.get 1 rfl).get 13 _ rfl)) ?_
       intro a22 H22
       refine H22.un (H22.wt rfl rfl rfl) rfl rfl rfl rfl rfl ?_
       intro a23 H23
       refine H23.pick (H23.wt rfl rfl rfl) rfl rfl rfl rfl rfl ?_
       intro a24 H24
       refine H24.pick gz rfl rfl rfl rfl rfl ?_
       intro a25 H25
       exact nt ⟨_, by rw [q96, q100] <;> rfl, H25.keep ⟨rfl, rfl, rfl, trivial⟩, O5⟩
      | true =>
       refine H20.offs 3 rfl ?_
       intro a21 H21
       refine H21.pick (H21.wt rfl rfl rfl) rfl rfl rfl rfl rfl ?_
       intro a22 H22
       refine H22.pick gz rfl rfl rfl rfl rfl ?_
       intro a23 H23
       exact nt ⟨_, by rw [q96, q100] <;> rfl, H23.keep ⟨rfl, rfl, rfl, trivial⟩, O5⟩
    rintro a17 w6 ⟨v105, q105, H17, O6⟩
    refine H17.ms 1 fun a18 H18 => ?_
    refine wpList_nil ?_
    refine block_normal ?_
    refine then_normal ?_
    exact ⟨nilV, nilV, nilV, (by rw [hq, show (inRB m.code 0 5 && (!m.present || m.code == 0)) = v105 from (by rw [Bool.or_comm (!m.present)]; exact q105)]; exact H18.keep ⟨rfl, rfl, rfl, trivial⟩), MqL.nil (by rw [ho] <;> rfl) (by rw [ho] <;> rfl) (by rw [ho] <;> rfl), O6⟩
   | false =>
    have k2 : ¬ m.kind = 2 := by simpa using h2
    refine rl ?_
    refine H12.bn 1 (eql_iB _ _ _ h2 _ _ _) fun a14 H14 => nt ?_
    refine H14.condF rfl ?_
    obtain ⟨b3, h3⟩ : ∃ b, (m.kind == 3) = b := ⟨_, rfl⟩
    cases b3 with
    | true =>
     have k3 : m.kind = 3 := by simpa using h3
     refine rl ?_
     refine H14.bn 1 (eql_iB _ _ _ h3 _ _ _) fun a16 H16 => nt ?_
     refine H16.condT rfl ?_
     have ho : onlyOf m = { mq0 m.kind with topic := m.topic, qos := m.qos, dup := m.dup, retain := m.retain, id := m.id, payload := m.payload } := by unfold onlyOf; rw [if_neg k1, if_neg k2, if_pos k3]
     have hq : okOf m = publishOk m := by unfold okOf; rw [if_neg k1, if_neg k2, if_pos k3]
     repeat (refine wp_seq ?_)
     refine H16.ds O3 0 [1, 3, 4] rfl [ec 0 108 (.pointer (some ⟨w.heap.size, 19, none⟩)), ec 1 109 (.string m.topic), ec 2 110 (.pointer (some ⟨w.heap.size, 17, none⟩)), ec 3 111 (iz m.qos), ec 4 112 (.pointer (some ⟨w.heap.size, 16, none⟩)), ec 5 113 (.bool m.dup), ec 6 114 (.pointer (some ⟨w.heap.size, 18, none⟩)), ec 7 115 (.bool m.retain), ec 8 116 (.pointer (some ⟨w.heap.size, 20, none⟩)), ec 9 117 (iz m.id), ec 10 118 (.pointer (some ⟨w.heap.size, 21, none⟩)), ec 11 119 (.string m.payload), ec 12 120 (.pointer (some ⟨w1.heap.size, 19, none⟩)), ec 14 121 (.pointer (some ⟨w1.heap.size, 17, none⟩)), ec 16 122 (.pointer (some ⟨w1.heap.size, 16, none⟩)), ec 18 123 (.pointer (some ⟨w1.heap.size, 18, none⟩)), ec 20 124 (.pointer (some ⟨w1.heap.size, 20, none⟩)), ec 22 125 (.pointer (some ⟨w1.heap.size, 21, none⟩))] [⟨23, 21, [(.string m.payload)]⟩, ⟨21, 20, [(iz m.id)]⟩, ⟨19, 18, [(.bool m.retain)]⟩, ⟨17, 16, [(.bool m.dup)]⟩, ⟨15, 17, [(iz m.qos)]⟩, ⟨13, 19, [(.string m.topic)]⟩] rfl rfl ⟨jm, jl fun _ ⟨_, _, h⟩ => load1_s _ _ _ _ ((h.get 1 rfl).get 19 _ rfl), jm, jl fun _ ⟨_, _, h⟩ => load1_i _ _ _ _ ((h.get 1 rfl).get 17 _ rfl), jm, jl fun _ ⟨_, _, h⟩ => load1_b _ _ _ _ ((h.get 1 rfl).get 16 _ rfl), jm, jl fun _ ⟨_, _, h⟩ => load1_b _ _ _ _ ((h.get 1 rfl).get 18 _ rfl), jm, jl fun _ ⟨_, _, h⟩ => load1_i _ _ _ _ ((h.get 1 rfl).get 20 _ rfl), jm, jl fun _ ⟨_, _, h⟩ => load1_s _ _ _ _ ((h.get 1 rfl).get 21 _ rfl), jm, jm, jm, jm, jm, jm, trivial⟩ ⟨q1 fun _ u h f => store1_s _ _ _ u _ h f, q1 fun _ u h f => store1_i _ _ _ u _ h f, q1 fun _ u h f => store1_b _ _ _ u _ h f, q1 fun _ u h f => store1_b _ _ _ u _ h f, q1 fun _ u h f => store1_i _ _ _ u _ h f, q1 fun _ u h f => store1_s _ _ _ u _ h f, trivial⟩ ?_
     intro a17 w4 H17 O4
     have O4 : Own w w.heap.size [(w1.heap.size, (mqCells (onlyOf m) nilV nilV nilV)), (w.heap.size, (mqCells m (.slice A1 m.codes.length c1) (.slice A2 m.wishes.length c2) (.slice A3 m.filters.length c3)))] w4 := by rw [ho]; exact O4
     refine then_normal ?_
     refine rl ?_
     refine wpList_cut 4 (fun a' w' => ∃ b, textOk m.topic 1 64 = b ∧ Has a' 289 [(1, pz w.heap.size), (3, pz w1.heap.size), (129, .bool b)] ∧ Own w w.heap.size [(w1.heap.size, (mqCells (onlyOf m) nilV nilV nilV)), (w.heap.size, (mqCells m (.slice A1 m.codes.length c1) (.slice A2 m.wishes.length c2) (.slice A3 m.filters.length c3)))] w') ?_ ?_
     ·skip
      refine H17.ms 1 fun a18 H18 => ?_
      refine H18.ld 0 (O4.ls 1 19) fun a19 H19 => ?_
      refine H19.cl (belowC (refTextV m.topic hF.topic 1 64 _ (hW.below O4.bel))) ?_
      rintro a20 _ w5 ⟨rfl, hb⟩ H20
      have O5 := O4.call hb
      clear hb
      refine H20.ms 1 fun a21 H21 => ?_
      exact nt ⟨_, by rfl, H21.keep ⟨rfl, rfl, rfl, trivial⟩, O5⟩
     rintro a18 w5 ⟨v129, q129, H18, O5⟩
     refine wpList_cut 5 (fun a' w' => ∃ b, (textOk m.topic 1 64 && plainOf (sb m.topic)) = b ∧ Has a' 289 [(1, pz w.heap.size), (3, pz w1.heap.size), (134, .bool b)] ∧ Own w w.heap.size [(w1.heap.size, (mqCells (onlyOf m) nilV nilV nilV)), (w.heap.size, (mqCells m (.slice A1 m.codes.length c1) (.slice A2 m.wishes.length c2) (.slice A3 m.filters.length c3)))] w') ?_ ?_
     ·skip
      cases v129 with
      | false =>
       refine H18.offs 3 rfl ?_
       intro a19 H19
       refine H19.pick gz rfl rfl rfl rfl rfl ?_
       intro a20 H20
       refine H20.ms 1 fun a21 H21 => ?_
       exact nt ⟨_, by rw [q129] <;> rfl, H21.keep ⟨rfl, rfl, rfl, trivial⟩, O5⟩
      | true =>
       refine H18.field (H18.wt rfl rfl rfl) rfl rfl rfl rfl field_15 ?_
       intro a19 H19
       refine H19.load (H19.wt rfl rfl rfl) rfl rfl rfl rfl (load1_s _ _ _ _ ((O5.get 1 rfl).get 19 _ rfl)) ?_
       intro a20 H20
       refine H20.call (H20.wt rfl rfl rfl) rfl rfl rfl rfl (fun _ _ => by kernel_rfl) (quietC (refPlain m.topic hF.topic _)) ?_
       rintro a21 _ _ ⟨rfl, rfl⟩ H21
       refine H21.pick gz rfl rfl rfl rfl rfl ?_
       intro a22 H22
       refine H22.ms 1 fun a23 H23 => ?_
       exact nt ⟨_, by rw [q129] <;> rfl, H23.keep ⟨rfl, rfl, rfl, trivial⟩, O5⟩
     rintro a19 w6 ⟨v134, q134, H19, O6⟩
     refine wpList_cut 5 (fun a' w' => ∃ b, ((textOk m.topic 1 64 && plainOf (sb m.topic)) && inRB m.qos 0 2) = b ∧ Has a' 289 [(1, pz w.heap.size), (3, pz w1.heap.size), (139, .bool b)] ∧ Own w w.heap.size [(w1.heap.size, (mqCells (onlyOf m) nilV nilV nilV)), (w.heap.size, (mqCells m (.slice A1 m.codes.length c1) (.slice A2 m.wishes.length c2) (.slice A3 m.filters.length c3)))] w') ?_ ?_
     ·skip
      cases v134 with
      | false =>
       refine H19.offs 3 rfl ?_
       intro a20 H20
       refine H20.pick gz rfl rfl rfl rfl rfl ?_
       intro a21 H21
       refine H21.ms 1 fun a22 H22 => ?_
       exact nt ⟨_, by rw [q134] <;> rfl, H22.keep ⟨rfl, rfl, rfl, trivial⟩, O6⟩
      | true =>
       refine H19.field (H19.wt rfl rfl rfl) rfl rfl rfl rfl field_13 ?_
       intro a20 H20
       refine H20.load (H20.wt rfl rfl rfl) rfl rfl rfl rfl (load1_i _ _ _ _ ((O6.get 1 rfl).get 17 _ rfl)) ?_
       intro a21 H21
       refine H21.call (H21.wt rfl rfl rfl) rfl rfl rfl rfl (fun _ _ => by kernel_rfl) (quietC (refNumB m.qos 2 _)) ?_
       rintro a22 _ _ ⟨rfl, rfl⟩ H22
       refine H22.pick gz rfl rfl rfl rfl rfl ?_
       intro a23 H23
       refine H23.ms 1 fun a24 H24 => ?_
       exact nt ⟨_, by rw [q134] <;> rfl, H24.keep ⟨rfl, rfl, rfl, trivial⟩, O6⟩
     rintro a20 w7 ⟨v139, q139, H20, O7⟩
     refine wpList_cut 5 (fun a' w' => ∃ b, (((textOk m.topic 1 64 && plainOf (sb m.topic)) && inRB m.qos 0 2) && decide ((m.payload.size : Int) ≤ 128)) = b ∧ Has a' 289 [(1, pz w.heap.size), (3, pz w1.heap.size), (144, .bool b)] ∧ Own w w.heap.size [(w1.heap.size, (mqCells (onlyOf m) nilV nilV nilV)), (w.heap.size, (mqCells m (.slice A1 m.codes.length c1) (.slice A2 m.wishes.length c2) (.slice A3 m.filters.length c3)))] w') ?_ ?_
     ·skip
      cases v139 with
      | false =>
       refine H20.offs 4 rfl ?_
       intro a21 H21
       refine H21.pick gz rfl rfl rfl rfl rfl ?_
       intro a22 H22
       exact nt ⟨_, by rw [q139] <;> rfl, H22.keep ⟨rfl, rfl, rfl, trivial⟩, O7⟩
      | true =>
       refine H20.field (H20.wt rfl rfl rfl) rfl rfl rfl rfl field_17 ?_
       intro a21 H21
       refine H21.load (H21.wt rfl rfl rfl) rfl rfl rfl rfl (load1_s _ _ _ _ ((O7.get 1 rfl).get 21 _ rfl)) ?_
       intro a22 H22
       refine H22.lenS (H22.wt rfl rfl rfl) rfl rfl rfl rfl Tryz.underlying9 ?_
       intro a23 H23
       refine H23.bin (H23.wt rfl rfl rfl) rfl rfl rfl rfl rfl (leq_i _ _ _ rfl _ _ _) ?_
       intro a24 H24
       refine H24.pick gz rfl rfl rfl rfl rfl ?_
       intro a25 H25
       exact nt ⟨_, by rw [q139] <;> rfl, H25.keep ⟨rfl, rfl, rfl, trivial⟩, O7⟩
     rintro a21 w8 ⟨v144, q144, H21, O8⟩
     refine H21.ms 1 fun a22 H22 => nt ?_
     obtain ⟨bq0, hq0⟩ : ∃ b, (m.qos == 0) = b := ⟨_, rfl⟩
     cases bq0 with
     | true =>
      refine H22.rg 1 fun a23 H23 => ?_
      refine H23.ld 0 (O8.li 1 17) fun a24 H24 => ?_
      refine H24.bn 0 (eql_iB _ _ _ hq0 _ _ _) fun a25 H25 => nt ?_
      refine H25.condT rfl ?_
      refine rl ?_
      refine wpList_cut 7 (fun a' w' => ∃ b, ((((textOk m.topic 1 64 && plainOf (sb m.topic)) && inRB m.qos 0 2) && decide ((m.payload.size : Int) ≤ 128)) && !m.dup) = b ∧ Has a' 289 [(1, pz w.heap.size), (3, pz w1.heap.size), (154, .bool b)] ∧ Own w w.heap.size [(w1.heap.size, (mqCells (onlyOf m) nilV nilV nilV)), (w.heap.size, (mqCells m (.slice A1 m.codes.length c1) (.slice A2 m.wishes.length c2) (.slice A3 m.filters.length c3)))] w') ?_ ?_
      ·skip
       refine H25.ms 2 fun a27 H27 => ?_
       cases v144 with
       | false =>
        refine H27.offs 3 rfl ?_
        intro a28 H28
        refine H28.pick gz rfl rfl rfl rfl rfl ?_
        intro a29 H29
        refine H29.ms 1 fun a30 H30 => ?_
        exact nt ⟨_, by rw [q144] <;> rfl, H30.keep ⟨rfl, rfl, rfl, trivial⟩, O8⟩
       | true =>
        refine H27.field (H27.wt rfl rfl rfl) rfl rfl rfl rfl field_12 ?_
        intro a28 H28
        refine H28.load (H28.wt rfl rfl rfl) rfl rfl rfl rfl (load1_b _ _ _ _ ((O8.get 1 rfl).get 16 _ rfl)) ?_
        intro a29 H29
        refine H29.un (H29.wt rfl rfl rfl) rfl rfl rfl rfl rfl ?_
        intro a30 H30
        refine H30.pick gz rfl rfl rfl rfl rfl ?_
        intro a31 H31
        refine H31.ms 1 fun a32 H32 => ?_
        exact nt ⟨_, by rw [q144] <;> rfl, H32.keep ⟨rfl, rfl, rfl, trivial⟩, O8⟩
      rintro a26 w9 ⟨v154, q154, H26, O9⟩
      refine wpList_cut 4 (fun a' w' => ∃ b, (((((textOk m.topic 1 64 && plainOf (sb m.topic)) && inRB m.qos 0 2) && decide ((m.payload.size : Int) ≤ 128)) && !m.dup) && (m.id == 0)) = b ∧ Has a' 289 [(1, pz w.heap.size), (3, pz w1.heap.size), (158, .bool b)] ∧ Own w w.heap.size [(w1.heap.size, (mqCells (onlyOf m) nilV nilV nilV)), (w.heap.size, (mqCells m (.slice A1 m.codes.length c1) (.slice A2 m.wishes.length c2) (.slice A3 m.filters.length c3)))] w') ?_ ?_
      ·skip
       cases v154 with
       | false =>
        refine H26.offs 3 rfl ?_
        intro a27 H27
        refine H27.pick gz rfl rfl rfl rfl rfl ?_
        intro a28 H28
        exact nt ⟨_, by rw [q154] <;> rfl, H28.keep ⟨rfl, rfl, rfl, trivial⟩, O9⟩
       | true =>
        refine H26.field (H26.wt rfl rfl rfl) rfl rfl rfl rfl field_16 ?_
        intro a27 H27
        refine H27.load (H27.wt rfl rfl rfl) rfl rfl rfl rfl (load1_i _ _ _ _ ((O9.get 1 rfl).get 20 _ rfl)) ?_
        intro a28 H28
        refine H28.bin (H28.wt rfl rfl rfl) rfl rfl rfl rfl rfl (eql_i _ _ _ _ _) ?_
        intro a29 H29
        refine H29.pick gz rfl rfl rfl rfl rfl ?_
        intro a30 H30
        exact nt ⟨_, by rw [q154] <;> rfl, H30.keep ⟨rfl, rfl, rfl, trivial⟩, O9⟩
      rintro a27 w10 ⟨v158, q158, H27, O10⟩
      refine H27.ms 1 fun a28 H28 => ?_
      refine wpList_nil ?_
      refine block_normal ?_
      refine then_normal ?_
      exact ⟨nilV, nilV, nilV, (by rw [hq, show publishOk m = v158 from (pub_zero m hq0).trans q158]; exact H28.keep ⟨rfl, rfl, rfl, trivial⟩), MqL.nil (by rw [ho] <;> rfl) (by rw [ho] <;> rfl) (by rw [ho] <;> rfl), O10⟩
     | false =>
      refine H22.rg 1 fun a23 H23 => ?_
      refine H23.ld 0 (O8.li 1 17) fun a24 H24 => ?_
      refine H24.bn 0 (eql_iB _ _ _ hq0 _ _ _) fun a25 H25 => nt ?_
      refine H25.condF rfl ?_
      refine rl ?_
      refine wpList_cut 6 (fun a' w' => ∃ b, ((((textOk m.topic 1 64 && plainOf (sb m.topic)) && inRB m.qos 0 2) && decide ((m.payload.size : Int) ≤ 128)) && inRB m.id 1 65535) = b ∧ Has a' 289 [(1, pz w.heap.size), (3, pz w1.heap.size), (164, .bool b)] ∧ Own w w.heap.size [(w1.heap.size, (mqCells (onlyOf m) nilV nilV nilV)), (w.heap.size, (mqCells m (.slice A1 m.codes.length c1) (.slice A2 m.wishes.length c2) (.slice A3 m.filters.length c3)))] w') ?_ ?_
      ·skip
       refine H25.ms 2 fun a27 H27 => ?_
       cases v144 with
       | false =>
        refine H27.offs 3 rfl ?_
        intro a28 H28
        refine H28.pick gz rfl rfl rfl rfl rfl ?_
        intro a29 H29
        exact nt ⟨_, by rw [q144] <;> rfl, H29.keep ⟨rfl, rfl, rfl, trivial⟩, O8⟩
       | true =>
        refine H27.field (H27.wt rfl rfl rfl) rfl rfl rfl rfl field_16 ?_
        intro a28 H28
        refine H28.load (H28.wt rfl rfl rfl) rfl rfl rfl rfl (load1_i _ _ _ _ ((O8.get 1 rfl).get 20 _ rfl)) ?_
        intro a29 H29
        refine H29.call (H29.wt rfl rfl rfl) rfl rfl rfl rfl (fun _ _ => by kernel_rfl) (quietC (refId m.id _)) ?_
        rintro a30 _ _ ⟨rfl, rfl⟩ H30
        refine H30.pick gz rfl rfl rfl rfl rfl ?_
        intro a31 H31
        exact nt ⟨_, by rw [q144] <;> rfl, H31.keep ⟨rfl, rfl, rfl, trivial⟩, O8⟩
      rintro a26 w9 ⟨v164, q164, H26, O9⟩
      refine H26.ms 1 fun a27 H27 => ?_
      refine wpList_nil ?_
      refine block_normal ?_
      refine then_normal ?_
      exact ⟨nilV, nilV, nilV, (by rw [hq, show publishOk m = v164 from (pub_more m hq0).trans q164]; exact H27.keep ⟨rfl, rfl, rfl, trivial⟩), MqL.nil (by rw [ho] <;> rfl) (by rw [ho] <;> rfl) (by rw [ho] <;> rfl), O9⟩
    | false =>
     have k3 : ¬ m.kind = 3 := by simpa using h3
     refine rl ?_
     refine H14.bn 1 (eql_iB _ _ _ h3 _ _ _) fun a16 H16 => nt ?_
     refine H16.condF rfl ?_
     refine wp_seq_join (fun a w' => ∃ b, idKind m.kind = b ∧ Has a 289 [(1, pz w.heap.size), (3, pz w1.heap.size), (4, .bool true), (11, iz m.kind), (165, .bool b)] ∧ Own w w.heap.size [(w1.heap.size, (mqCells (mq0 m.kind) nilV nilV nilV)), (w.heap.size, (mqCells m (.slice A1 m.codes.length c1) (.slice A2 m.wishes.length c2) (.slice A3 m.filters.length c3)))] w') ?_ ?_
     ·skip
      obtain ⟨b4, h4⟩ : ∃ b, (m.kind == 4) = b := ⟨_, rfl⟩
      cases b4 with
      | true =>
       refine rl ?_
       refine H16.bn 1 (eql_iB _ _ _ h4 _ _ _) fun a18 H18 => nt ?_
       refine H18.condT rfl ?_
       refine skip_wp ?_
       refine then_normal ?_
       exact ⟨_, (by unfold idKind; rw [h4] <;> rfl), H18.keep ⟨rfl, rfl, rfl, rfl, rfl, trivial⟩, O3⟩
      | false =>
       refine rl ?_
       refine H16.bn 1 (eql_iB _ _ _ h4 _ _ _) fun a18 H18 => nt ?_
       refine H18.condF rfl ?_
       obtain ⟨b5, h5⟩ : ∃ b, (m.kind == 5) = b := ⟨_, rfl⟩
       cases b5 with
       | true =>
        refine rl ?_
        refine H18.bn 1 (eql_iB _ _ _ h5 _ _ _) fun a20 H20 => nt ?_
        refine H20.condT rfl ?_
        refine skip_wp ?_
        refine then_normal ?_
        exact ⟨_, (by unfold idKind; rw [h4, h5] <;> rfl), H20.keep ⟨rfl, rfl, rfl, rfl, rfl, trivial⟩, O3⟩
       | false =>
        refine rl ?_
        refine H18.bn 1 (eql_iB _ _ _ h5 _ _ _) fun a20 H20 => nt ?_
        refine H20.condF rfl ?_
        obtain ⟨b6, h6⟩ : ∃ b, (m.kind == 6) = b := ⟨_, rfl⟩
        cases b6 with
        | true =>
         refine rl ?_
         refine H20.bn 1 (eql_iB _ _ _ h6 _ _ _) fun a22 H22 => nt ?_
         refine H22.condT rfl ?_
         refine skip_wp ?_
         refine then_normal ?_
         exact ⟨_, (by unfold idKind; rw [h4, h5, h6] <;> rfl), H22.keep ⟨rfl, rfl, rfl, rfl, rfl, trivial⟩, O3⟩
        | false =>
         refine rl ?_
         refine H20.bn 1 (eql_iB _ _ _ h6 _ _ _) fun a22 H22 => nt ?_
         refine H22.condF rfl ?_
         obtain ⟨b7, h7⟩ : ∃ b, (m.kind == 7) = b := ⟨_, rfl⟩
         cases b7 with
         | true =>
          refine rl ?_
          refine H22.bn 1 (eql_iB _ _ _ h7 _ _ _) fun a24 H24 => nt ?_
          refine H24.condT rfl ?_
          refine skip_wp ?_
          refine then_normal ?_
          exact ⟨_, (by unfold idKind; rw [h4, h5, h6, h7] <;> rfl), H24.keep ⟨rfl, rfl, rfl, rfl, rfl, trivial⟩, O3⟩
         | false =>
          refine rl ?_
          refine H22.bn 1 (eql_iB _ _ _ h7 _ _ _) fun a24 H24 => nt ?_
          refine H24.condF rfl ?_
          obtain ⟨b11, h11⟩ : ∃ b, (m.kind == 11) = b := ⟨_, rfl⟩
          cases b11 with
          | true =>
           refine rl ?_
           refine H24.bn 1 (eql_iB _ _ _ h11 _ _ _) fun a26 H26 => nt ?_
           exact ⟨_, (by unfold idKind; rw [h4, h5, h6, h7, h11] <;> rfl), H26.keep ⟨rfl, rfl, rfl, rfl, rfl, trivial⟩, O3⟩
          | false =>
           refine rl ?_
           refine H24.bn 1 (eql_iB _ _ _ h11 _ _ _) fun a26 H26 => nt ?_
           exact ⟨_, (by unfold idKind; rw [h4, h5, h6, h7, h11] <;> rfl), H26.keep ⟨rfl, rfl, rfl, rfl, rfl, trivial⟩, O3⟩
     rintro a17 w4 ⟨v165, q165, H17, O4⟩
     cases v165 with
     | true =>
      have ki : idKind m.kind = true := q165
      refine H17.condT rfl ?_
      have ho : onlyOf m = { mq0 m.kind with id := m.id } := by unfold onlyOf; rw [if_neg k1, if_neg k2, if_neg k3, if_pos ki]
      have hq : okOf m = inRB m.id 1 65535 := by unfold okOf; rw [if_neg k1, if_neg k2, if_neg k3, if_pos ki]
      refine H17.rg 1 fun a18 H18 => ?_
      refine H18.ld 1 (O4.li 1 20) fun a20 H20 => ?_
      refine H20.sc O4 0 0 (fun u h f => store1_i _ _ _ u _ h f) fun a21 w5 O5 H21 => nt ?_
      have O5' : Own w w.heap.size [(w1.heap.size, (mqCells (onlyOf m) nilV nilV nilV)), (w.heap.size, (mqCells m (.slice A1 m.codes.length c1) (.slice A2 m.wishes.length c2) (.slice A3 m.filters.length c3)))] w5 := by rw [ho]; exact O5
      have O5 := O5'
      refine H21.rg 1 fun a22 H22 => ?_
      refine H22.ld 0 (O5.li 1 20) fun a23 H23 => ?_
      refine H23.cq 1 (refId m.id _) fun a25 H25 => ?_
      refine wpList_nil ?_
      refine block_normal ?_
      refine then_normal ?_
      exact ⟨nilV, nilV, nilV, (by rw [hq, show inRB m.id 1 65535 = inRB m.id 1 65535 from rfl]; exact H25.keep ⟨rfl, rfl, rfl, trivial⟩), MqL.nil (by rw [ho] <;> rfl) (by rw [ho] <;> rfl) (by rw [ho] <;> rfl), O5⟩
     | false =>
      have ki : ¬ idKind m.kind = true := by simp [q165]
      refine H17.condF rfl ?_
      obtain ⟨b8, h8⟩ : ∃ b, (m.kind == 8) = b := ⟨_, rfl⟩
      cases b8 with
      | true =>
       have k8 : m.kind = 8 := by simpa using h8
       refine rl ?_
       refine H17.bn 1 (eql_iB _ _ _ h8 _ _ _) fun a19 H19 => nt ?_
       refine H19.condT rfl ?_
       have ho : onlyOf m = { mq0 m.kind with id := m.id, wishes := m.wishes } := by unfold onlyOf; rw [if_neg k1, if_neg k2, if_neg k3, if_neg ki, if_pos k8]
       have hq : okOf m = (inRB m.id 1 65535 && wishesOk m.wishes) := by unfold okOf; rw [if_neg k1, if_neg k2, if_neg k3, if_neg ki, if_pos k8]
       repeat (refine wp_seq ?_)
       refine H19.ds O4 0 [1, 3, 4] rfl [ec 0 179 (.pointer (some ⟨w.heap.size, 20, none⟩)), ec 1 180 (iz m.id), ec 2 181 (.pointer (some ⟨w.heap.size, 22, none⟩)), ec 3 182 (.slice A2 m.wishes.length c2), ec 4 183 (.pointer (some ⟨w1.heap.size, 20, none⟩)), ec 6 184 (.pointer (some ⟨w1.heap.size, 22, none⟩))] [⟨7, 22, [(.slice A2 m.wishes.length c2)]⟩, ⟨5, 20, [(iz m.id)]⟩] rfl rfl ⟨jm, jl fun _ ⟨_, _, h⟩ => load1_i _ _ _ _ ((h.get 1 rfl).get 20 _ rfl), jm, jl fun _ ⟨_, _, h⟩ => load1_27 _ _ _ _ _ _ ((h.get 1 rfl).get 22 _ rfl), jm, jm, trivial⟩ ⟨q1 fun _ u h f => store1_27 _ _ _ _ _ u _ h f, q1 fun _ u h f => store1_i _ _ _ u _ h f, trivial⟩ ?_
       intro a20 w5 H20 O5
       have O5 : Own w w.heap.size [(w1.heap.size, (mqCells (onlyOf m) nilV (.slice A2 m.wishes.length c2) nilV)), (w.heap.size, (mqCells m (.slice A1 m.codes.length c1) (.slice A2 m.wishes.length c2) (.slice A3 m.filters.length c3)))] w5 := by rw [ho]; exact O5
       refine then_normal ?_
       refine rl ?_
       refine wpList_cut 4 (fun a' w' => ∃ b, inRB m.id 1 65535 = b ∧ Has a' 289 [(1, pz w.heap.size), (3, pz w1.heap.size), (188, .bool b)] ∧ Own w w.heap.size [(w1.heap.size, (mqCells (onlyOf m) nilV (.slice A2 m.wishes.length c2) nilV)), (w.heap.size, (mqCells m (.slice A1 m.codes.length c1) (.slice A2 m.wishes.length c2) (.slice A3 m.filters.length c3)))] w') ?_ ?_
       ·skip
        refine H20.ms 1 fun a21 H21 => ?_
        refine H21.ld 0 (O5.li 1 20) fun a22 H22 => ?_
        refine H22.cq 1 (refId m.id _) fun a24 H24 => ?_
        exact nt ⟨_, by rfl, H24.keep ⟨rfl, rfl, rfl, trivial⟩, O5⟩
       rintro a21 w6 ⟨v188, q188, H21, O6⟩
       refine wpList_cut 4 (fun a' w' => ∃ b, (inRB m.id 1 65535 && wishesOk m.wishes) = b ∧ Has a' 289 [(1, pz w.heap.size), (3, pz w1.heap.size), (192, .bool b)] ∧ Own w w.heap.size [(w1.heap.size, (mqCells (onlyOf m) nilV (.slice A2 m.wishes.length c2) nilV)), (w.heap.size, (mqCells m (.slice A1 m.codes.length c1) (.slice A2 m.wishes.length c2) (.slice A3 m.filters.length c3)))] w') ?_ ?_
       ·skip
        cases v188 with
        | false =>
         refine H21.offs 3 rfl ?_
         intro a22 H22
         refine H22.pick gz rfl rfl rfl rfl rfl ?_
         intro a23 H23
         exact nt ⟨_, by rw [q188] <;> rfl, H23.keep ⟨rfl, rfl, rfl, trivial⟩, O6⟩
        | true =>
         refine H21.field (H21.wt rfl rfl rfl) rfl rfl rfl rfl field_18 ?_
         intro a22 H22
         refine H22.load (H22.wt rfl rfl rfl) rfl rfl rfl rfl (load1_27 _ _ _ _ _ _ ((O6.get 1 rfl).get 22 _ rfl)) ?_
         intro a23 H23
         refine H23.call (H23.wt rfl rfl rfl) rfl rfl rfl rfl (fun _ _ => by kernel_rfl) (belowC (refWishes m.wishes _ rfl hF.wishes A2 c2 k2' _ (hW.below O6.bel) (r2.next O6.bel))) ?_
         rintro a24 _ w7 ⟨rfl, hb⟩ H24
         have O7 := O6.call hb
         clear hb
         refine H24.pick gz rfl rfl rfl rfl rfl ?_
         intro a25 H25
         exact nt ⟨_, by rw [q188] <;> rfl, H25.keep ⟨rfl, rfl, rfl, trivial⟩, O7⟩
       rintro a22 w7 ⟨v192, q192, H22, O7⟩
       refine H22.ms 1 fun a23 H23 => ?_
       refine wpList_nil ?_
       refine block_normal ?_
       refine then_normal ?_
       exact ⟨nilV, (.slice A2 m.wishes.length c2), nilV, (by rw [hq, q192]; exact H23.keep ⟨rfl, rfl, rfl, trivial⟩), (hL.next O7.bel).onlyW (by rw [ho] <;> rfl) (by rw [ho] <;> rfl) (by rw [ho] <;> rfl), O7⟩
      | false =>
       have k8 : ¬ m.kind = 8 := by simpa using h8
       refine rl ?_
       refine H17.bn 1 (eql_iB _ _ _ h8 _ _ _) fun a19 H19 => nt ?_
       refine H19.condF rfl ?_
       obtain ⟨b9, h9⟩ : ∃ b, (m.kind == 9) = b := ⟨_, rfl⟩
       cases b9 with
       | true =>
        have k9 : m.kind = 9 := by simpa using h9
        refine rl ?_
        refine H19.bn 1 (eql_iB _ _ _ h9 _ _ _) fun a21 H21 => nt ?_
        refine H21.condT rfl ?_
        have ho : onlyOf m = { mq0 m.kind with id := m.id, codes := m.codes } := by unfold onlyOf; rw [if_neg k1, if_neg k2, if_neg k3, if_neg ki, if_neg k8, if_pos k9]
        have hq : okOf m = (inRB m.id 1 65535 && codesOk m.codes) := by unfold okOf; rw [if_neg k1, if_neg k2, if_neg k3, if_neg ki, if_neg k8, if_pos k9]
        repeat (refine wp_seq ?_)
        refine H21.ds O4 0 [1, 3, 4] rfl [ec 0 195 (.pointer (some ⟨w.heap.size, 20, none⟩)), ec 1 196 (iz m.id), ec 2 197 (.pointer (some ⟨w.heap.size, 15, none⟩)), ec 3 198 (.slice A1 m.codes.length c1), ec 4 199 (.pointer (some ⟨w1.heap.size, 20, none⟩)), ec 6 200 (.pointer (some ⟨w1.heap.size, 15, none⟩))] [⟨7, 15, [(.slice A1 m.codes.length c1)]⟩, ⟨5, 20, [(iz m.id)]⟩] rfl rfl ⟨jm, jl fun _ ⟨_, _, h⟩ => load1_i _ _ _ _ ((h.get 1 rfl).get 20 _ rfl), jm, jl fun _ ⟨_, _, h⟩ => load1_26 _ _ _ _ _ _ ((h.get 1 rfl).get 15 _ rfl), jm, jm, trivial⟩ ⟨q1 fun _ u h f => store1_26 _ _ _ _ _ u _ h f, q1 fun _ u h f => store1_i _ _ _ u _ h f, trivial⟩ ?_
        intro a22 w5 H22 O5
        have O5 : Own w w.heap.size [(w1.heap.size, (mqCells (onlyOf m) (.slice A1 m.codes.length c1) nilV nilV)), (w.heap.size, (mqCells m (.slice A1 m.codes.length c1) (.slice A2 m.wishes.length c2) (.slice A3 m.filters.length c3)))] w5 := by rw [ho]; exact O5
        refine then_normal ?_
        refine rl ?_
        refine wpList_cut 4 (fun a' w' => ∃ b, inRB m.id 1 65535 = b ∧ Has a' 289 [(1, pz w.heap.size), (3, pz w1.heap.size), (204, .bool b)] ∧ Own w w.heap.size [(w1.heap.size, (mqCells (onlyOf m) (.slice A1 m.codes.length c1) nilV nilV)), (w.heap.size, (mqCells m (.slice A1 m.codes.length c1) (.slice A2 m.wishes.length c2) (.slice A3 m.filters.length c3)))] w') ?_ ?_
        ·skip
         refine H22.ms 1 fun a23 H23 => ?_
         refine H23.ld 0 (O5.li 1 20) fun a24 H24 => ?_
         refine H24.cq 1 (refId m.id _) fun a26 H26 => ?_
         exact nt ⟨_, by rfl, H26.keep ⟨rfl, rfl, rfl, trivial⟩, O5⟩
        rintro a23 w6 ⟨v204, q204, H23, O6⟩
        refine wpList_cut 6 (fun a' w' => ∃ b, (inRB m.id 1 65535 && decide ((1 : Int) ≤ m.codes.length)) = b ∧ Has a' 289 [(1, pz w.heap.size), (3, pz w1.heap.size), (210, .bool b)] ∧ Own w w.heap.size [(w1.heap.size, (mqCells (onlyOf m) (.slice A1 m.codes.length c1) nilV nilV)), (w.heap.size, (mqCells m (.slice A1 m.codes.length c1) (.slice A2 m.wishes.length c2) (.slice A3 m.filters.length c3)))] w') ?_ ?_
        ·skip
         cases v204 with
         | false =>
          refine H23.offs 4 rfl ?_
          intro a24 H24
          refine H24.pick gz rfl rfl rfl rfl rfl ?_
          intro a25 H25
          refine H25.ms 1 fun a26 H26 => ?_
          exact nt ⟨_, by rw [q204] <;> rfl, H26.keep ⟨rfl, rfl, rfl, trivial⟩, O6⟩
         | true =>
          refine H23.field (H23.wt rfl rfl rfl) rfl rfl rfl rfl field_11 ?_
          intro a24 H24
          refine H24.load (H24.wt rfl rfl rfl) rfl rfl rfl rfl (load1_26 _ _ _ _ _ _ ((O6.get 1 rfl).get 15 _ rfl)) ?_
          intro a25 H25
          refine H25.len (H25.wt rfl rfl rfl) rfl rfl rfl rfl Tryz.underlying45 ?_
          intro a26 H26
          refine H26.bin (H26.wt rfl rfl rfl) rfl rfl rfl rfl rfl (geq_i _ _ _ rfl _ _ _) ?_
          intro a27 H27
          refine H27.pick gz rfl rfl rfl rfl rfl ?_
          intro a28 H28
          refine H28.ms 1 fun a29 H29 => ?_
          exact nt ⟨_, by rw [q204] <;> rfl, H29.keep ⟨rfl, rfl, rfl, trivial⟩, O6⟩
        rintro a24 w7 ⟨v210, q210, H24, O7⟩
        refine wpList_cut 5 (fun a' w' => ∃ b, ((inRB m.id 1 65535 && decide ((1 : Int) ≤ m.codes.length)) && decide ((m.codes.length : Int) ≤ 8)) = b ∧ Has a' 289 [(1, pz w.heap.size), (3, pz w1.heap.size), (215, .bool b)] ∧ Own w w.heap.size [(w1.heap.size, (mqCells (onlyOf m) (.slice A1 m.codes.length c1) nilV nilV)), (w.heap.size, (mqCells m (.slice A1 m.codes.length c1) (.slice A2 m.wishes.length c2) (.slice A3 m.filters.length c3)))] w') ?_ ?_
        ·skip
         cases v210 with
         | false =>
          refine H24.offs 4 rfl ?_
          intro a25 H25
          refine H25.pick gz rfl rfl rfl rfl rfl ?_
          intro a26 H26
          exact nt ⟨_, by rw [q210] <;> rfl, H26.keep ⟨rfl, rfl, rfl, trivial⟩, O7⟩
         | true =>
          refine H24.field (H24.wt rfl rfl rfl) rfl rfl rfl rfl field_11 ?_
          intro a25 H25
          refine H25.load (H25.wt rfl rfl rfl) rfl rfl rfl rfl (load1_26 _ _ _ _ _ _ ((O7.get 1 rfl).get 15 _ rfl)) ?_
          intro a26 H26
          refine H26.len (H26.wt rfl rfl rfl) rfl rfl rfl rfl Tryz.underlying45 ?_
          intro a27 H27
          refine H27.bin (H27.wt rfl rfl rfl) rfl rfl rfl rfl rfl (leq_i _ _ _ rfl _ _ _) ?_
          intro a28 H28
          refine H28.pick gz rfl rfl rfl rfl rfl ?_
          intro a29 H29
          exact nt ⟨_, by rw [q210] <;> rfl, H29.keep ⟨rfl, rfl, rfl, trivial⟩, O7⟩
        rintro a25 w8 ⟨v215, q215, H25, O8⟩
        refine H25.ms 1 fun a26 H26 => nt ?_
        refine H26.rg 1 fun a27 H27 => nt ?_
        refine wp_block ?_
        refine wp_loop_up m.codes.length (fun k a w' => ∃ b, (((inRB m.id 1 65535 && decide ((1 : Int) ≤ m.codes.length)) && decide ((m.codes.length : Int) ≤ 8)) && codesAll (m.codes.take k)) = b ∧ Has a 289 [(1, pz w.heap.size), (3, pz w1.heap.size), (4, .bool b), (5, iz k)] ∧ Own w w.heap.size [(w1.heap.size, (mqCells (onlyOf m) (.slice A1 m.codes.length c1) nilV nilV)), (w.heap.size, (mqCells m (.slice A1 m.codes.length c1) (.slice A2 m.wishes.length c2) (.slice A3 m.filters.length c3)))] w') ?_ ?_
        ·exact ⟨_, (by rw [List.take_zero, q215]; simp [codesAll]), H27.keep ⟨rfl, rfl, rfl, rfl, trivial⟩, O8⟩
        ·rintro k a28 w9 hkn ⟨v4, q4, H28, O9⟩
         by_cases hlt : k < m.codes.length
         ·skip
          refine H28.rg 2 fun a30 H30 => ?_
          refine H30.ld 0 (O9.l6 1 15) fun a31 H31 => ?_
          refine H31.len gz rfl rfl rfl rfl Tryz.underlying45 ?_
          intro a32 H32
          refine H32.bb 0 rfl rfl rfl rfl rfl rfl (lss_i _ _ true (by simpa using hlt) _ _ _) rfl fun a33 H33 => nt ?_
          refine H33.condT rfl ?_
          refine skip_wp ?_
          refine then_normal ?_
          repeat (refine wp_seq ?_)
          refine wp_block ?_
          refine rl ?_
          obtain ⟨b, o, v, hA, _, hv, hc⟩ := (r1.next O9.bel).get1 hlt
          obtain ⟨x, hx⟩ : ∃ x, m.codes[k]? = some x := ⟨_, List.getElem?_eq_getElem hlt⟩
          rw [List.getElem?_map, hx] at hv
          injection hv with hv
          subst hv
          refine wpList_cut 17 (fun a' w' => ∃ b, ((((inRB m.id 1 65535 && decide ((1 : Int) ≤ m.codes.length)) && decide ((m.codes.length : Int) ≤ 8)) && codesAll (m.codes.take k)) && (inRB x 0 2 || (x == 128))) = b ∧ Has a' 289 [(1, pz w.heap.size), (3, pz w1.heap.size), (5, iz k), (239, .bool b)] ∧ Own w w.heap.size [(w1.heap.size, (mqCells (onlyOf m) (.slice A1 m.codes.length c1) nilV nilV)), (w.heap.size, (mqCells m (.slice A1 m.codes.length c1) (.slice A2 m.wishes.length c2) (.slice A3 m.filters.length c3)))] w') ?_ ?_
          ·skip
           refine H33.ms 2 fun a35 H35 => ?_
           cases v4 with
           | false =>
            refine H35.offs 14 rfl ?_
            intro a36 H36
            refine H36.pick gz rfl rfl rfl rfl rfl ?_
            intro a37 H37
            exact nt ⟨_, by rw [q4] <;> rfl, H37.keep ⟨rfl, rfl, rfl, rfl, trivial⟩, O9⟩
           | true =>
            refine H35.field (H35.wt rfl rfl rfl) rfl rfl rfl rfl field_11 ?_
            intro a36 H36
            refine H36.load (H36.wt rfl rfl rfl) rfl rfl rfl rfl (load1_26 _ _ _ _ _ _ ((O9.get 1 rfl).get 15 _ rfl)) ?_
            intro a37 H37
            refine H37.move (H37.wt rfl rfl rfl) (.inl rfl) rfl rfl rfl ?_
            intro a38 H38
            refine H38.index (H38.wt rfl rfl rfl) rfl rfl rfl rfl rfl (show (Instr.indexAt 45 (.slice A1 m.codes.length c1) (iz k)).run Tryz.prog _ = .ok (.pointer (some ⟨b, o + k, none⟩)) _ by rw [hA]; exact index_1 45 Tryz.underlying45 (fun _ => by kernel_rfl) _ _ _ _ _ hlt _) ?_
            intro a39 H39
            refine H39.load (H39.wt rfl rfl rfl) rfl rfl rfl rfl (load1_i _ _ _ _ hc) ?_
            intro a40 H40
            refine H40.call (H40.wt rfl rfl rfl) rfl rfl rfl rfl (fun _ _ => by kernel_rfl) (quietC (refNumB x 2 _)) ?_
            rintro a41 _ _ ⟨rfl, rfl⟩ H41
            refine H41.move (H41.wt rfl rfl rfl) (.inl rfl) rfl rfl rfl ?_
            intro a42 H42
            obtain ⟨v231, q231⟩ : ∃ b, inRB x 0 2 = b := ⟨_, rfl⟩
            rw [q231] at H42
            cases v231 with
            | false =>
             refine H42.field (H42.wt rfl rfl rfl) rfl rfl rfl rfl field_11 ?_
             intro a43 H43
             refine H43.load (H43.wt rfl rfl rfl) rfl rfl rfl rfl (load1_26 _ _ _ _ _ _ ((O9.get 1 rfl).get 15 _ rfl)) ?_
             intro a44 H44
             refine H44.move (H44.wt rfl rfl rfl) (.inl rfl) rfl rfl rfl ?_
             intro a45 H45
             refine H45.index (H45.wt rfl rfl rfl) rfl rfl rfl rfl rfl (show (Instr.indexAt 45 (.slice A1 m.codes.length c1) (iz k)).run Tryz.prog _ = .ok (.pointer (some ⟨b, o + k, none⟩)) _ by rw [hA]; exact index_1 45 Tryz.underlying45 (fun _ => by kernel_rfl) _ _ _ _ _ hlt _) ?_
             intro a46 H46
             refine H46.load (H46.wt rfl rfl rfl) rfl rfl rfl rfl (load1_i _ _ _ _ hc) ?_
             intro a47 H47
             refine H47.bin (H47.wt rfl rfl rfl) rfl rfl rfl rfl rfl (eql_i _ _ _ _ _) ?_
             intro a48 H48
             refine H48.pick (H48.wt rfl rfl rfl) rfl rfl rfl rfl rfl ?_
             intro a49 H49
             refine H49.pick gz rfl rfl rfl rfl rfl ?_
             intro a50 H50
             exact nt ⟨_, by rw [q4, q231] <;> rfl, H50.keep ⟨rfl, rfl, rfl, rfl, trivial⟩, O9⟩
            | true =>
             refine H42.offs 6 rfl ?_
             intro a43 H43
             refine H43.pick (H43.wt rfl rfl rfl) rfl rfl rfl rfl rfl ?_
             intro a44 H44
             refine H44.pick gz rfl rfl rfl rfl rfl ?_
             intro a45 H45
             exact nt ⟨_, by rw [q4, q231] <;> rfl, H45.keep ⟨rfl, rfl, rfl, rfl, trivial⟩, O9⟩
          rintro a34 w10 ⟨v239, q239, H34, O10⟩
          refine H34.ms 1 fun a35 H35 => ?_
          refine wpList_nil ?_
          refine block_normal ?_
          refine then_normal ?_
          refine H35.rg 1 fun a36 H36 => ?_
          refine H36.bb 1 rfl rfl rfl rfl rfl rfl (succ_i _ (by omega) _ _ _) rfl fun a38 H38 => nt ?_
          exact ⟨hlt, _, (by rw [take_snoc? _ _ _ hx, codesAll_snoc, ← Bool.and_assoc]; exact q239), H38.keep ⟨rfl, rfl, rfl, rfl, trivial⟩, O10⟩
         ·skip
          refine H28.rg 2 fun a30 H30 => ?_
          refine H30.ld 0 (O9.l6 1 15) fun a31 H31 => ?_
          refine H31.len gz rfl rfl rfl rfl Tryz.underlying45 ?_
          intro a32 H32
          refine H32.bb 0 rfl rfl rfl rfl rfl rfl (lss_i _ _ false (by simpa using hlt) _ _ _) rfl fun a33 H33 => nt ?_
          refine H33.condF rfl ?_
          refine wp_exit ?_
          repeat (with_reducible refine then_exit ?_)
          refine block_leave ?_
          rw [List.take_of_length_le (by omega)] at q4
          refine block_normal ?_
          refine then_normal ?_
          exact ⟨(.slice A1 m.codes.length c1), nilV, nilV, (by rw [hq, show (inRB m.id 1 65535 && codesOk m.codes) = v4 from (list_and _ _ _).symm.trans q4]; exact H33.keep ⟨rfl, rfl, rfl, trivial⟩), (hL.next O9.bel).onlyC (by rw [ho] <;> rfl) (by rw [ho] <;> rfl) (by rw [ho] <;> rfl), O9⟩
       | false =>
        have k9 : ¬ m.kind = 9 := by simpa using h9
        refine rl ?_
        refine H19.bn 1 (eql_iB _ _ _ h9 _ _ _) fun a21 H21 => nt ?_
        refine H21.condF rfl ?_
        obtain ⟨b10, h10⟩ : ∃ b, (m.kind == 10) = b := ⟨_, rfl⟩
        cases b10 with
        | true =>
         have k10 : m.kind = 10 := by simpa using h10
         refine rl ?_
         refine H21.bn 1 (eql_iB _ _ _ h10 _ _ _) fun a23 H23 => nt ?_
         refine H23.condT rfl ?_
         have ho : onlyOf m = { mq0 m.kind with id := m.id, filters := m.filters } := by unfold onlyOf; rw [if_neg k1, if_neg k2, if_neg k3, if_neg ki, if_neg k8, if_neg k9, if_pos k10]
         have hq : okOf m = (inRB m.id 1 65535 && filtersOk m.filters) := by unfold okOf; rw [if_neg k1, if_neg k2, if_neg k3, if_neg ki, if_neg k8, if_neg k9, if_pos k10]
         repeat (refine wp_seq ?_)
         refine H23.ds O4 0 [1, 3, 4] rfl [ec 0 242 (.pointer (some ⟨w.heap.size, 20, none⟩)), ec 1 243 (iz m.id), ec 2 244 (.pointer (some ⟨w.heap.size, 23, none⟩)), ec 3 245 (.slice A3 m.filters.length c3), ec 4 246 (.pointer (some ⟨w1.heap.size, 20, none⟩)), ec 6 247 (.pointer (some ⟨w1.heap.size, 23, none⟩))] [⟨7, 23, [(.slice A3 m.filters.length c3)]⟩, ⟨5, 20, [(iz m.id)]⟩] rfl rfl ⟨jm, jl fun _ ⟨_, _, h⟩ => load1_i _ _ _ _ ((h.get 1 rfl).get 20 _ rfl), jm, jl fun _ ⟨_, _, h⟩ => load1_28 _ _ _ _ _ _ ((h.get 1 rfl).get 23 _ rfl), jm, jm, trivial⟩ ⟨q1 fun _ u h f => store1_28 _ _ _ _ _ u _ h f, q1 fun _ u h f => store1_i _ _ _ u _ h f, trivial⟩ ?_
         intro a24 w5 H24 O5
         have O5 : Own w w.heap.size [(w1.heap.size, (mqCells (onlyOf m) nilV nilV (.slice A3 m.filters.length c3))), (w.heap.size, (mqCells m (.slice A1 m.codes.length c1) (.slice A2 m.wishes.length c2) (.slice A3 m.filters.length c3)))] w5 := by rw [ho]; exact O5
         refine then_normal ?_
         refine rl ?_
         refine wpList_cut 4 (fun a' w' => ∃ b, inRB m.id 1 65535 = b ∧ Has a' 289 [(1, pz w.heap.size), (3, pz w1.heap.size), (251, .bool b)] ∧ Own w w.heap.size [(w1.heap.size, (mqCells (onlyOf m) nilV nilV (.slice A3 m.filters.length c3))), (w.heap.size, (mqCells m (.slice A1 m.codes.length c1) (.slice A2 m.wishes.length c2) (.slice A3 m.filters.length c3)))] w') ?_ ?_
         ·skip
          refine H24.ms 1 fun a25 H25 => ?_
          refine H25.ld 0 (O5.li 1 20) fun a26 H26 => ?_
          refine H26.cq 1 (refId m.id _) fun a28 H28 => ?_
          exact nt ⟨_, by rfl, H28.keep ⟨rfl, rfl, rfl, trivial⟩, O5⟩
         rintro a25 w6 ⟨v251, q251, H25, O6⟩
         refine wpList_cut 6 (fun a' w' => ∃ b, (inRB m.id 1 65535 && decide ((1 : Int) ≤ m.filters.length)) = b ∧ Has a' 289 [(1, pz w.heap.size), (3, pz w1.heap.size), (257, .bool b)] ∧ Own w w.heap.size [(w1.heap.size, (mqCells (onlyOf m) nilV nilV (.slice A3 m.filters.length c3))), (w.heap.size, (mqCells m (.slice A1 m.codes.length c1) (.slice A2 m.wishes.length c2) (.slice A3 m.filters.length c3)))] w') ?_ ?_
         ·skip
          cases v251 with
          | false =>
           refine H25.offs 4 rfl ?_
           intro a26 H26
           refine H26.pick gz rfl rfl rfl rfl rfl ?_
           intro a27 H27
           refine H27.ms 1 fun a28 H28 => ?_
           exact nt ⟨_, by rw [q251] <;> rfl, H28.keep ⟨rfl, rfl, rfl, trivial⟩, O6⟩
          | true =>
           refine H25.field (H25.wt rfl rfl rfl) rfl rfl rfl rfl field_19 ?_
           intro a26 H26
           refine H26.load (H26.wt rfl rfl rfl) rfl rfl rfl rfl (load1_28 _ _ _ _ _ _ ((O6.get 1 rfl).get 23 _ rfl)) ?_
           intro a27 H27
           refine H27.len (H27.wt rfl rfl rfl) rfl rfl rfl rfl Tryz.underlying47 ?_
           intro a28 H28
           refine H28.bin (H28.wt rfl rfl rfl) rfl rfl rfl rfl rfl (geq_i _ _ _ rfl _ _ _) ?_
           intro a29 H29
           refine H29.pick gz rfl rfl rfl rfl rfl ?_
           intro a30 H30
           refine H30.ms 1 fun a31 H31 => ?_
           exact nt ⟨_, by rw [q251] <;> rfl, H31.keep ⟨rfl, rfl, rfl, trivial⟩, O6⟩
         rintro a26 w7 ⟨v257, q257, H26, O7⟩
         refine wpList_cut 5 (fun a' w' => ∃ b, ((inRB m.id 1 65535 && decide ((1 : Int) ≤ m.filters.length)) && decide ((m.filters.length : Int) ≤ 8)) = b ∧ Has a' 289 [(1, pz w.heap.size), (3, pz w1.heap.size), (262, .bool b)] ∧ Own w w.heap.size [(w1.heap.size, (mqCells (onlyOf m) nilV nilV (.slice A3 m.filters.length c3))), (w.heap.size, (mqCells m (.slice A1 m.codes.length c1) (.slice A2 m.wishes.length c2) (.slice A3 m.filters.length c3)))] w') ?_ ?_
         ·skip
          cases v257 with
          | false =>
           refine H26.offs 4 rfl ?_
           intro a27 H27
           refine H27.pick gz rfl rfl rfl rfl rfl ?_
           intro a28 H28
           exact nt ⟨_, by rw [q257] <;> rfl, H28.keep ⟨rfl, rfl, rfl, trivial⟩, O7⟩
          | true =>
           refine H26.field (H26.wt rfl rfl rfl) rfl rfl rfl rfl field_19 ?_
           intro a27 H27
           refine H27.load (H27.wt rfl rfl rfl) rfl rfl rfl rfl (load1_28 _ _ _ _ _ _ ((O7.get 1 rfl).get 23 _ rfl)) ?_
           intro a28 H28
           refine H28.len (H28.wt rfl rfl rfl) rfl rfl rfl rfl Tryz.underlying47 ?_
           intro a29 H29
           refine H29.bin (H29.wt rfl rfl rfl) rfl rfl rfl rfl rfl (leq_i _ _ _ rfl _ _ _) ?_
           intro a30 H30
           refine H30.pick gz rfl rfl rfl rfl rfl ?_
           intro a31 H31
           exact nt ⟨_, by rw [q257] <;> rfl, H31.keep ⟨rfl, rfl, rfl, trivial⟩, O7⟩
         rintro a27 w8 ⟨v262, q262, H27, O8⟩
         refine H27.ms 1 fun a28 H28 => nt ?_
         refine H28.rg 1 fun a29 H29 => nt ?_
         refine wp_block ?_
         refine wp_loop_up m.filters.length (fun k a w' => ∃ b, (((inRB m.id 1 65535 && decide ((1 : Int) ≤ m.filters.length)) && decide ((m.filters.length : Int) ≤ 8)) && filtersAll (m.filters.take k)) = b ∧ Has a 289 [(1, pz w.heap.size), (3, pz w1.heap.size), (4, .bool b), (6, iz k)] ∧ Own w w.heap.size [(w1.heap.size, (mqCells (onlyOf m) nilV nilV (.slice A3 m.filters.length c3))), (w.heap.size, (mqCells m (.slice A1 m.codes.length c1) (.slice A2 m.wishes.length c2) (.slice A3 m.filters.length c3)))] w') ?_ ?_
         ·exact ⟨_, (by rw [List.take_zero, q262]; simp [filtersAll]), H29.keep ⟨rfl, rfl, rfl, rfl, trivial⟩, O8⟩
         ·rintro k a30 w9 hkn ⟨v4, q4, H30, O9⟩
          by_cases hlt : k < m.filters.length
          ·skip
           refine H30.rg 2 fun a32 H32 => ?_
           refine H32.ld 0 (O9.l8 1 23) fun a33 H33 => ?_
           refine H33.len gz rfl rfl rfl rfl Tryz.underlying47 ?_
           intro a34 H34
           refine H34.bb 0 rfl rfl rfl rfl rfl rfl (lss_i _ _ true (by simpa using hlt) _ _ _) rfl fun a35 H35 => nt ?_
           refine H35.condT rfl ?_
           refine skip_wp ?_
           refine then_normal ?_
           repeat (refine wp_seq ?_)
           refine wp_block ?_
           refine rl ?_
           obtain ⟨b, o, v, hA, _, hv, hc⟩ := (r3.next O9.bel).get1 hlt
           obtain ⟨x, hx⟩ : ∃ x, m.filters[k]? = some x := ⟨_, List.getElem?_eq_getElem hlt⟩
           rw [List.getElem?_map, hx] at hv
           injection hv with hv
           subst hv
           refine wpList_cut 9 (fun a' w' => ∃ b, ((((inRB m.id 1 65535 && decide ((1 : Int) ≤ m.filters.length)) && decide ((m.filters.length : Int) ≤ 8)) && filtersAll (m.filters.take k)) && textOk x 1 64) = b ∧ Has a' 289 [(1, pz w.heap.size), (3, pz w1.heap.size), (6, iz k), (278, .bool b)] ∧ Own w w.heap.size [(w1.heap.size, (mqCells (onlyOf m) nilV nilV (.slice A3 m.filters.length c3))), (w.heap.size, (mqCells m (.slice A1 m.codes.length c1) (.slice A2 m.wishes.length c2) (.slice A3 m.filters.length c3)))] w') ?_ ?_
           ·skip
            refine H35.ms 2 fun a37 H37 => ?_
            cases v4 with
            | false =>
             refine H37.offs 6 rfl ?_
             intro a38 H38
             refine H38.pick gz rfl rfl rfl rfl rfl ?_
             intro a39 H39
             exact nt ⟨_, by rw [q4] <;> rfl, H39.keep ⟨rfl, rfl, rfl, rfl, trivial⟩, O9⟩
            | true =>
             refine H37.field (H37.wt rfl rfl rfl) rfl rfl rfl rfl field_19 ?_
             intro a38 H38
             refine H38.load (H38.wt rfl rfl rfl) rfl rfl rfl rfl (load1_28 _ _ _ _ _ _ ((O9.get 1 rfl).get 23 _ rfl)) ?_
             intro a39 H39
             refine H39.move (H39.wt rfl rfl rfl) (.inl rfl) rfl rfl rfl ?_
             intro a40 H40
             refine H40.index (H40.wt rfl rfl rfl) rfl rfl rfl rfl rfl (show (Instr.indexAt 47 (.slice A3 m.filters.length c3) (iz k)).run Tryz.prog _ = .ok (.pointer (some ⟨b, o + k, none⟩)) _ by rw [hA]; exact index_1 47 Tryz.underlying47 (fun _ => by kernel_rfl) _ _ _ _ _ hlt _) ?_
             intro a41 H41
             refine H41.load (H41.wt rfl rfl rfl) rfl rfl rfl rfl (load1_s _ _ _ _ hc) ?_
             intro a42 H42
             refine H42.call (H42.wt rfl rfl rfl) rfl rfl rfl rfl (fun _ _ => by kernel_rfl) (belowC (refTextV x (hF.filters x (List.mem_of_getElem? hx)) 1 64 _ (hW.below O9.bel))) ?_
             rintro a43 _ w10 ⟨rfl, hb⟩ H43
             have O10 := O9.call hb
             clear hb
             refine H43.pick gz rfl rfl rfl rfl rfl ?_
             intro a44 H44
             exact nt ⟨_, by rw [q4] <;> rfl, H44.keep ⟨rfl, rfl, rfl, rfl, trivial⟩, O10⟩
           rintro a36 w10 ⟨v278, q278, H36, O10⟩
           refine H36.ms 1 fun a37 H37 => ?_
           refine wpList_nil ?_
           refine block_normal ?_
           refine then_normal ?_
           refine H37.rg 1 fun a38 H38 => ?_
           refine H38.bb 1 rfl rfl rfl rfl rfl rfl (succ_i _ (by omega) _ _ _) rfl fun a40 H40 => nt ?_
           exact ⟨hlt, _, (by rw [take_snoc? _ _ _ hx, filtersAll_snoc, ← Bool.and_assoc]; exact q278), H40.keep ⟨rfl, rfl, rfl, rfl, trivial⟩, O10⟩
          ·skip
           refine H30.rg 2 fun a32 H32 => ?_
           refine H32.ld 0 (O9.l8 1 23) fun a33 H33 => ?_
           refine H33.len gz rfl rfl rfl rfl Tryz.underlying47 ?_
           intro a34 H34
           refine H34.bb 0 rfl rfl rfl rfl rfl rfl (lss_i _ _ false (by simpa using hlt) _ _ _) rfl fun a35 H35 => nt ?_
           refine H35.condF rfl ?_
           refine wp_exit ?_
           repeat (with_reducible refine then_exit ?_)
           refine block_leave ?_
           rw [List.take_of_length_le (by omega)] at q4
           refine block_normal ?_
           refine then_normal ?_
           exact ⟨nilV, nilV, (.slice A3 m.filters.length c3), (by rw [hq, show (inRB m.id 1 65535 && filtersOk m.filters) = v4 from (list_and _ _ _).symm.trans q4]; exact H35.keep ⟨rfl, rfl, rfl, trivial⟩), (hL.next O9.bel).onlyF (by rw [ho] <;> rfl) (by rw [ho] <;> rfl) (by rw [ho] <;> rfl), O9⟩
        | false =>
         have k10 : ¬ m.kind = 10 := by simpa using h10
         refine rl ?_
         refine H21.bn 1 (eql_iB _ _ _ h10 _ _ _) fun a23 H23 => nt ?_
         refine H23.condF rfl ?_
         refine wp_seq_join (fun a w' => ∃ b, bareKind m.kind = b ∧ Has a 289 [(1, pz w.heap.size), (3, pz w1.heap.size), (4, .bool true), (11, iz m.kind), (279, .bool b)] ∧ Own w w.heap.size [(w1.heap.size, (mqCells (mq0 m.kind) nilV nilV nilV)), (w.heap.size, (mqCells m (.slice A1 m.codes.length c1) (.slice A2 m.wishes.length c2) (.slice A3 m.filters.length c3)))] w') ?_ ?_
         ·skip
          obtain ⟨b12, h12⟩ : ∃ b, (m.kind == 12) = b := ⟨_, rfl⟩
          cases b12 with
          | true =>
           refine rl ?_
           refine H23.bn 1 (eql_iB _ _ _ h12 _ _ _) fun a25 H25 => nt ?_
           refine H25.condT rfl ?_
           refine skip_wp ?_
           refine then_normal ?_
           exact ⟨_, (by unfold bareKind; rw [h12] <;> rfl), H25.keep ⟨rfl, rfl, rfl, rfl, rfl, trivial⟩, O4⟩
          | false =>
           refine rl ?_
           refine H23.bn 1 (eql_iB _ _ _ h12 _ _ _) fun a25 H25 => nt ?_
           refine H25.condF rfl ?_
           obtain ⟨b13, h13⟩ : ∃ b, (m.kind == 13) = b := ⟨_, rfl⟩
           cases b13 with
           | true =>
            refine rl ?_
            refine H25.bn 1 (eql_iB _ _ _ h13 _ _ _) fun a27 H27 => nt ?_
            refine H27.condT rfl ?_
            refine skip_wp ?_
            refine then_normal ?_
            exact ⟨_, (by unfold bareKind; rw [h12, h13] <;> rfl), H27.keep ⟨rfl, rfl, rfl, rfl, rfl, trivial⟩, O4⟩
           | false =>
            refine rl ?_
            refine H25.bn 1 (eql_iB _ _ _ h13 _ _ _) fun a27 H27 => nt ?_
            refine H27.condF rfl ?_
            obtain ⟨b14, h14⟩ : ∃ b, (m.kind == 14) = b := ⟨_, rfl⟩
            cases b14 with
            | true =>
             refine rl ?_
             refine H27.bn 1 (eql_iB _ _ _ h14 _ _ _) fun a29 H29 => nt ?_
             exact ⟨_, (by unfold bareKind; rw [h12, h13, h14] <;> rfl), H29.keep ⟨rfl, rfl, rfl, rfl, rfl, trivial⟩, O4⟩
            | false =>
             refine rl ?_
             refine H27.bn 1 (eql_iB _ _ _ h14 _ _ _) fun a29 H29 => nt ?_
             exact ⟨_, (by unfold bareKind; rw [h12, h13, h14] <;> rfl), H29.keep ⟨rfl, rfl, rfl, rfl, rfl, trivial⟩, O4⟩
         rintro a24 w5 ⟨v279, q279, H24, O5⟩
         cases v279 with
         | true =>
          refine H24.condT rfl ?_
          refine skip_wp ?_
          have ho : onlyOf m = mq0 m.kind := by unfold onlyOf; rw [if_neg k1, if_neg k2, if_neg k3, if_neg ki, if_neg k8, if_neg k9, if_neg k10]
          have hq : okOf m = bareKind m.kind := by unfold okOf; rw [if_neg k1, if_neg k2, if_neg k3, if_neg ki, if_neg k8, if_neg k9, if_neg k10]
          have O5 : Own w w.heap.size [(w1.heap.size, (mqCells (onlyOf m) nilV nilV nilV)), (w.heap.size, (mqCells m (.slice A1 m.codes.length c1) (.slice A2 m.wishes.length c2) (.slice A3 m.filters.length c3)))] w5 := by rw [ho]; exact O5
          refine block_normal ?_
          refine then_normal ?_
          exact ⟨nilV, nilV, nilV, (by rw [hq, q279]; exact H24.keep ⟨rfl, rfl, rfl, trivial⟩), MqL.nil (by rw [ho] <;> rfl) (by rw [ho] <;> rfl) (by rw [ho] <;> rfl), O5⟩
         | false =>
          refine H24.condF rfl ?_
          have ho : onlyOf m = mq0 m.kind := by unfold onlyOf; rw [if_neg k1, if_neg k2, if_neg k3, if_neg ki, if_neg k8, if_neg k9, if_neg k10]
          have hq : okOf m = bareKind m.kind := by unfold okOf; rw [if_neg k1, if_neg k2, if_neg k3, if_neg ki, if_neg k8, if_neg k9, if_neg k10]
          refine H24.rg 1 fun a25 H25 => nt ?_
          refine wp_ret ?_
          repeat (first | (with_reducible refine block_ret ?_) | (with_reducible refine then_ret ?_))
          refine bodyPost_ret (results_tmp rfl _ _ _) H25.df ⟨?_, O5.bel⟩
          have hm : mayBb m = false := by unfold mayBb; rw [hq, q279]; rfl
          rw [hm]
          exact congrArg Ending.returned (H25.at_ 2 _ rfl)
 rintro a9 w4 ⟨vc', vw', vf', H9, hM, O4⟩
 obtain ⟨vo, qo⟩ : ∃ b, okOf m = b := ⟨_, rfl⟩
 rw [qo] at H9
 have hm : mayBb m = (vo && Mq.same m (onlyOf m)) := by unfold mayBb; rw [qo]
 refine rl ?_
 cases vo with
 | false =>
  refine H9.ms 2 fun a11 H11 => ?_
  refine H11.offs 3 rfl ?_
  intro a12 H12
  refine H12.pick gz rfl rfl rfl rfl rfl ?_
  intro a13 H13
  refine H13.ms 1 fun a14 H14 => nt ?_
  refine wp_ret ?_
  repeat (first | (with_reducible refine block_ret ?_) | (with_reducible refine then_ret ?_))
  refine bodyPost_ret (results_tmp rfl _ _ _) H14.df ⟨?_, O4.bel⟩
  rw [hm]
  exact congrArg Ending.returned (H14.at_ 2 _ rfl)
 | true =>
  refine H9.ms 2 fun a11 H11 => ?_
  refine H11.go (H11.wt rfl rfl rfl) rfl rfl _ (run_load rfl (H11.ev rfl) (loadS_run (O4.get 0 rfl))) ?_
  intro a12 H12
  refine H12.go (H12.wt rfl rfl rfl) rfl rfl _ (run_load rfl (H12.ev rfl) (loadS_run (O4.get 1 rfl))) ?_
  intro a13 H13
  refine H13.call (H13.wt rfl rfl rfl) rfl rfl rfl rfl (fun _ _ => by kernel_rfl) (belowC (refEqMq (onlyOf m) m _ _ _ _ _ _ _ hM (hL.next O4.bel))) ?_
  rintro a14 _ w5 ⟨rfl, hb⟩ H14
  have O5 := O4.call hb
  clear hb
  refine H14.pick gz rfl rfl rfl rfl rfl ?_
  intro a15 H15
  refine H15.ms 1 fun a16 H16 => nt ?_
  refine wp_ret ?_
  repeat (first | (with_reducible refine block_ret ?_) | (with_reducible refine then_ret ?_))
  refine bodyPost_ret (results_tmp rfl _ _ _) H16.df ⟨?_, O5.bel⟩
  rw [hm]
  rw [same_symm m (onlyOf m)]
  exact congrArg Ending.returned (H16.at_ 2 _ rfl)
end
end Go.Proofs.YtlacidnnankjlaaGreatDoor
