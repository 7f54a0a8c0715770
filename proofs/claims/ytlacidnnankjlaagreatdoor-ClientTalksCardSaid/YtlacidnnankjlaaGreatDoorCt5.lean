/-
  Texts of the claim: Back28 FrRow PgF PgA IpRPN SegRPN PgS BegA BegB Law28 RdRC RdRX Row Read CopyM Weigh AskMq RWish RMay.
-/
import Derived.Lib.SlBytesConst
import Derived.Lib.BufferRead
import Derived.Test.YtlacidnnankjlaaGreatDoorRows
import Derived.ProofKit
import Derived.SizedLaws
import Derived.Carry
import Derived.ChangeSame
import Derived.Deep.Slices
import Derived.Deep.Fields
import Derived.LaidMore
import Derived.LaidLaws
import Derived.Handed
import Derived.Stop.Joined
import Derived.Deep.Strs
import Derived.Deep.SlicePairs
import Derived.Test.YtlacidnnankjlaaGreatDoorCt4
namespace Go.Proofs.YtlacidnnankjlaaGreatDoor
set_option maxRecDepth 100000
set_option maxHeartbeats 25600000
section
open Go.RowKit
theorem back28 (ip mac port : Nat) (iss sqp : Int) (vL : Value) (sq ak fl wn : Nat) (sp0 dp0 : Int) (xs : List UInt8) (A : Option Addr) (c : Nat) (hq : Sg.ok ⟨1883, port, sq, ak, fl, wn, xs⟩ = true) (hip : ip < 4294967296) (hm : mac < 281474976710656) (w : World) (hx : RB w w.heap.size A xs) :
  Calls Tryz.prog 13 #[.agg ([iz ip, iz mac, iz port, iz iss, vL, iz sqp] : List Value).toArray, .agg ([iz sp0, iz dp0, iz sq, iz ak, iz fl, iz wn, .slice A xs.length c] : List Value).toArray] w fun e w' => ∃ v, e = .returned v ∧ (RowIs w.heap.size (wire mac 2199023255553 167772161 ip ⟨1883, port, sq, ak, fl, wn, xs⟩) v w' ∧ Below w.heap.size w w') := by
 have hl : xs.length ≤ 1460 := (Sg.ok_iff.1 hq).2.2.2.2.2.2
 go_enter Tryz.func13, Tryz.ntmps13
 refine Has.start 23 [(0, .agg ([iz ip, iz mac, iz port, iz iss, vL, iz sqp] : List Value).toArray), (1, .agg ([iz sp0, iz dp0, iz sq, iz ak, iz fl, iz wn, .slice A xs.length c] : List Value).toArray)] rfl rfl ⟨rfl, rfl, trivial⟩ ?_
 intro a0 H0
 have O0 := Own.start w
 refine rl ?_
 refine H0.bx O0 0 (L := [iz ip, iz mac, iz port, iz iss, vL, iz sqp]) fun a w1 O1 H => ?_
 generalize hg : w.heap.size = g2 at O1 H
 refine H.bx O1 1 (L := [iz sp0, iz dp0, iz sq, iz ak, iz fl, iz wn, .slice A xs.length c]) fun a w2 O2 H => nt ?_
 generalize w1.heap.size = g3 at O2 H
 have bl : ∀ {bs : List (Nat × List Value)} {w'}, Own w g2 bs w' → Below w.heap.size w w' := fun h => hg ▸ h.bel
 replace H := H.kp [2, 3]
 refine H.sg (fun w' => Own w g2 [(g3, [iz sp0, iz dp0, iz sq, iz ak, iz fl, iz wn, .slice A xs.length c]), (g2, [iz ip, iz mac, iz port, iz iss, vL, iz sqp])] w') O2.drew [2, 3] [ec 0 6 (.pointer (some ⟨g2, 2, none⟩)), ec 1 7 (iz port), ec 2 8 (pz g3)] rfl ?_
 refine St.sto 3 ⟨jm, jl fun _ h => h.li 1 2, jm, trivial⟩ ?_
 rintro a wu H _ Ou
 obtain ⟨k1, k2⟩ := (Ou.get 0 rfl) 0 _ rfl
 refine ⟨_, run_store rfl (H.ev rfl) rfl (store1_i g3 0 1883 _ _ k1 k2), nx0 (fun w' => Own w g2 [(g3, [iz 1883, iz dp0, iz sq, iz ak, iz fl, iz wn, .slice A xs.length c]), (g2, [iz ip, iz mac, iz port, iz iss, vL, iz sqp])] w') [ec 4 9 (.pointer (some ⟨g3, 1, none⟩))] [] (Ou.turn 0 rfl (grown_setCell _ _ _ _) ((Ou.get 0 rfl).set 0 _ (Nat.succ_pos _))) ?_⟩
 refine St.sto 5 ⟨jm, jm, jl fun _ h => h.li 1 2, trivial⟩ ?_
 clear Ou k1 k2 H
 rintro a wu H _ Ou
 obtain ⟨k1, k2⟩ := (Ou.get 0 rfl) 1 _ rfl
 refine ⟨_, run_store rfl (H.ev rfl) (H.ev rfl) (store1_i g3 1 (port : Int) _ _ k1 k2), nx0 (fun w' => Own w g2 [(g3, [iz 1883, iz port, iz sq, iz ak, iz fl, iz wn, .slice A xs.length c]), (g2, [iz ip, iz mac, iz port, iz iss, vL, iz sqp])] w') [] [] (Ou.turn 0 rfl (grown_setCell _ _ _ _) ((Ou.get 0 rfl).set 1 _ (Nat.succ_lt_succ (Nat.succ_pos _)))) (St.fin trivial ?_)⟩
 clear Ou k1 k2 H O2 O1
 intro a w3 H _ O3
 refine then_normal ?_
 replace H := H.kp [2, 3]
 have hg33 : g3 < w3.heap.size ∧ g2 < w3.heap.size := ⟨O3.lt 0 rfl, O3.lt 1 rfl⟩
 refine H.sg (fun w' => Own w g2 [(g3, [iz 1883, iz port, iz sq, iz ak, iz fl, iz wn, .slice A xs.length c]), (g2, [iz ip, iz mac, iz port, iz iss, vL, iz sqp])] w' ∧ Below w3.heap.size w3 w') ⟨O3.drew, Below.drew (Below.refl _ _)⟩ [2, 3] [ec 0 10 (pz g2), ec 1 11 (iz ip), ec 2 12 (pz g2), ec 3 13 (iz ip), ec 4 14 (.agg ([iz 1883, iz port, iz sq, iz ak, iz fl, iz wn, .slice A xs.length c] : List Value).toArray), er 7 5 [] (BoxQ w3.heap.size 89 (pkL .zero nilV))] rfl ?_
 have KK : ∀ wy, (Own w g2 [(g3, [iz 1883, iz port, iz sq, iz ak, iz fl, iz wn, .slice A xs.length c]), (g2, [iz ip, iz mac, iz port, iz iss, vL, iz sqp])] wy ∧ Below w3.heap.size w3 wy) → _ := fun wy h => refSegBytesC ip 1883 port sq ak fl wn xs A c hq hip wy (hx.next (bl h.1))
 refine St.call 5 ⟨jm, jl fun _ h => h.1.li 1 0, jm, jl fun _ h => h.1.li 1 0, jl fun _ h => loadT (h.1.get 0 rfl) Tryz.underlying36 rfl size_sg27 rfl, ka zero_pk27 fun _ h => h.2.size, trivial⟩ KK ?_ (hF := .inr fun _ _ h hb => ⟨h.1.call hb, h.2.trans (hb.mono h.2.size)⟩) (hst := ⟨fun _ _ _ hb h => h.below hb, trivial⟩)
 rintro wx _ wz hh ⟨A1, c1, rfl, hO1, hb4⟩
 obtain ⟨bx, hbx⟩ : ∃ bx, wx.heap.size = bx := ⟨_, rfl⟩
 rw [hbx] at hO1
 refine nx (fun w' => (Own w g2 [(g3, [iz 1883, iz port, iz sq, iz ak, iz fl, iz wn, .slice A xs.length c]), (g2, [iz ip, iz mac, iz port, iz iss, vL, iz sqp])] w' ∧ Below w3.heap.size w3 w') ∧ w'.ownsRow bx 5 1 (.slice A1 (20 + xs.length) c1) (20 + xs.length) ((sgBytes 167772161 ip 1883 port sq ak fl wn xs).map bv) ∧ bx ≤ w'.heap.size) [ec 6 16 (.agg ([iz 167772161, iz ip, iz 6, iz 64, iz 0, .slice A1 (20 + xs.length) c1] : List Value).toArray)] [] ⟨⟨hh.1.call hb4, hh.2.trans (hb4.mono hh.2.size)⟩, hO1, hbx ▸ hb4.size⟩ ?_ (hk := StabAll.keeps hb4 ⟨fun _ _ _ hb h => h.below hb, trivial⟩)
 refine St.sto 8 ⟨ja (fun _ => by kernel_rfl), jm, jl fun _ h => h.1.1.li 1 0, ka zero_pk27 fun _ h => h.1.2.size, trivial⟩ ?_ (hF := .inr fun _ _ h hb => ⟨⟨h.1.1.call hb, h.1.2.trans (hb.mono h.1.2.size)⟩, own_below h.2.1 hb, Nat.le_trans h.2.2 hb.size⟩) (hst := ⟨fun _ _ _ hb h => h.below hb, trivial⟩)
 rintro a wu H ⟨⟨g5, e5, hg1, hg2, hC, hTy⟩, _⟩ h
 obtain ⟨w', hr', hgr, hs', hC'⟩ := hC.sto (L := [iz 167772161, iz ip, iz 6, iz 64, iz 0, .slice A1 (20 + xs.length) c1]) size_pk27 rfl rfl rfl
 have O4 := h.1.1.addq hgr (by omega) hg2 (by
  intro p hp
  simp only [List.mem_cons, List.not_mem_nil, or_false] at hp
  rcases hp with rfl | rfl
  ·show g3 ≠ g5; omega
  ·show g2 ≠ g5; omega) hC'
 refine ⟨w', run_store rfl e5 (H.ev rfl) hr', nxp (fun w' => Own w g2 [(g5, [iz 167772161, iz ip, iz 6, iz 64, iz 0, .slice A1 (20 + xs.length) c1]), (g3, [iz 1883, iz port, iz sq, iz ak, iz fl, iz wn, .slice A xs.length c]), (g2, [iz ip, iz mac, iz port, iz iss, vL, iz sqp])] w' ∧ w'.ownsRow bx 5 1 (.slice A1 (20 + xs.length) c1) (20 + xs.length) ((sgBytes 167772161 ip 1883 port sq ak fl wn xs).map bv) ∧ bx ≤ w'.heap.size) [ec 7 5 (pz g5)] [] [7] ⟨O4, h.2.1.kept hgr (.inr (hTy.far h.2.1 rfl).symm), Nat.le_trans h.2.2 hgr.size⟩ ⟨⟨rfl, rfl, _, rfl, e5⟩, trivial⟩ (St.fin trivial ?_ (hF := .inl rfl))⟩
 clear h O4 hr' hgr hs' hC' hC hTy e5 H hh hO1 hb4
 rintro a w4 H _ ⟨O4, hO4, hs4⟩
 refine then_normal ?_
 have hr4 := rb_of_own (sgBytes_length 167772161 ip 1883 port sq ak fl wn xs) hO4 hs4
 have hpk := wire_ip (src := 167772161) (dst := ip) (q := ⟨1883, port, sq, ak, fl, wn, xs⟩) (by decide) hip hl
 have hlen : (ipHead 167772161 ip 6 64 0 (20 + xs.length) ++ sgBytes 167772161 ip 1883 port sq ak fl wn xs).length = 20 + (20 + xs.length) := by simp [ipHead_length, sgBytes_length]
 replace H := H.kp [2, 5]
 refine H.sg (fun w' => Own w g2 [(g5, [iz 167772161, iz ip, iz 6, iz 64, iz 0, .slice A1 (20 + xs.length) c1]), (g3, [iz 1883, iz port, iz sq, iz ak, iz fl, iz wn, .slice A xs.length c]), (g2, [iz ip, iz mac, iz port, iz iss, vL, iz sqp])] w' ∧ RB w' w'.heap.size A1 (sgBytes 167772161 ip 1883 port sq ak fl wn xs)) ⟨O4.drew, hr4.next (Below.drew (Below.refl _ _))⟩ [2, 5] [ec 0 17 (.pointer (some ⟨g2, 1, none⟩)), ec 1 18 (iz mac), ec 2 19 (.agg ([iz 167772161, iz ip, iz 6, iz 64, iz 0, .slice A1 (20 + xs.length) c1] : List Value).toArray)] rfl ?_
 have KK2 : ∀ wy, (Own w g2 [(g5, [iz 167772161, iz ip, iz 6, iz 64, iz 0, .slice A1 (20 + xs.length) c1]), (g3, [iz 1883, iz port, iz sq, iz ak, iz fl, iz wn, .slice A xs.length c]), (g2, [iz ip, iz mac, iz port, iz iss, vL, iz sqp])] wy ∧ RB wy wy.heap.size A1 (sgBytes 167772161 ip 1883 port sq ak fl wn xs)) → _ := fun wy h => refPBytesC ip (sgBytes 167772161 ip 1883 port sq ak fl wn xs) (20 + xs.length) (sgBytes_length ..) A1 c1 hpk wy h.2
 refine St.call 3 ⟨jm, jl fun _ h => h.1.li 2 1, jl fun _ h => loadT (h.1.get 0 rfl) Tryz.underlying89 rfl size_pk27 rfl, trivial⟩ KK2 ?_
 rintro wx2 _ wz hh ⟨A2, c2, rfl, hO2, hb6⟩
 have hr6 := rb_of_own hlen hO2 hb6.size
 refine nx (fun w' => Own w g2 [(g5, [iz 167772161, iz ip, iz 6, iz 64, iz 0, .slice A1 (20 + xs.length) c1]), (g3, [iz 1883, iz port, iz sq, iz ak, iz fl, iz wn, .slice A xs.length c]), (g2, [iz ip, iz mac, iz port, iz iss, vL, iz sqp])] w' ∧ RB w' w'.heap.size A2 (ipHead 167772161 ip 6 64 0 (20 + xs.length) ++ sgBytes 167772161 ip 1883 port sq ak fl wn xs)) [ec 4 21 (.agg ([iz mac, iz ((2199023255553 : Nat) : Int), iz ((2048 : Nat) : Int), .slice A2 (20 + (20 + xs.length)) c2] : List Value).toArray)] [] ⟨hh.1.call hb6, hr6⟩ ?_
 have KK3 : ∀ wy, (Own w g2 [(g5, [iz 167772161, iz ip, iz 6, iz 64, iz 0, .slice A1 (20 + xs.length) c1]), (g3, [iz 1883, iz port, iz sq, iz ak, iz fl, iz wn, .slice A xs.length c]), (g2, [iz ip, iz mac, iz port, iz iss, vL, iz sqp])] wy ∧ RB wy wy.heap.size A2 (ipHead 167772161 ip 6 64 0 (20 + xs.length) ++ sgBytes 167772161 ip 1883 port sq ak fl wn xs)) → Calls Tryz.prog 54 #[.agg ([iz mac, iz ((2199023255553 : Nat) : Int), iz ((2048 : Nat) : Int), .slice A2 (20 + (20 + xs.length)) c2] : List Value).toArray] wy fun e w' => ∃ v, e = .returned v ∧ (RowIs wy.heap.size (frBytes mac 2199023255553 2048 (ipHead 167772161 ip 6 64 0 (20 + xs.length) ++ sgBytes 167772161 ip 1883 port sq ak fl wn xs)) v w' ∧ Below wy.heap.size wy w') := fun wy h => hlen ▸ pageFrameBytes mac 2199023255553 2048 (ipHead 167772161 ip 6 64 0 (20 + xs.length) ++ sgBytes 167772161 ip 1883 port sq ak fl wn xs) A2 c2 wy hm (by decide) (by decide) h.2 (by rw [hlen]; omega)
 refine St.call 5 ⟨ja (fun _ => by kernel_rfl), jm, jl fun _ h => h.1.li 2 1, trivial⟩ KK3 ?_
 clear hO2 hr6 hh hb6
 rintro wx3 v wz hh ⟨hrow, hb7⟩
 refine nx (fun w' => Own w g2 [(g5, [iz 167772161, iz ip, iz 6, iz 64, iz 0, .slice A1 (20 + xs.length) c1]), (g3, [iz 1883, iz port, iz sq, iz ak, iz fl, iz wn, .slice A xs.length c]), (g2, [iz ip, iz mac, iz port, iz iss, vL, iz sqp])] w' ∧ RowIs w.heap.size (frBytes mac 2199023255553 2048 (ipHead 167772161 ip 6 64 0 (20 + xs.length) ++ sgBytes 167772161 ip 1883 port sq ak fl wn xs)) v w') [ec 6 4 v] [] ⟨hh.1.call hb7, hrow.base (hg ▸ hh.1.le)⟩ (St.fin ⟨jm, trivial⟩ ?_)
 clear hrow hb7 hh
 rintro a w8 H _ ⟨O8, hr8⟩
 refine then_normal (wp_ret ?_)
 repeat (first | (with_reducible refine block_ret ?_) | (with_reducible refine then_ret ?_))
 refine bodyPost_ret (results_tmp rfl _ _ _) H.df ⟨v, congrArg Ending.returned (H.at_ 4 _ rfl), ?_, O8.bel⟩
 have e : wire mac 2199023255553 167772161 ip ⟨1883, port, sq, ak, fl, wn, xs⟩ = frBytes mac 2199023255553 2048 (ipHead 167772161 ip 6 64 0 (20 + xs.length) ++ sgBytes 167772161 ip 1883 port sq ak fl wn xs) := by
  unfold wire Pk.bytes Sg.bytes
  show frBytes mac 2199023255553 2048 (ipHead 167772161 ip 6 64 0 (sgBytes 167772161 ip 1883 port sq ak fl wn xs).length ++ _) = _
  rw [sgBytes_length]
  rfl
 rw [e]
 exact hg ▸ hr8
theorem cliGot (g ip mac port iss next wants : Nat) (up : Bool) (xs : List UInt8) (A : Option Addr) (c : Nat) (vl : Value) (w : World) (hC : Cells w g (cliC ip mac port iss next wants up (.slice A xs.length c) vl)) (hx : RB w w.heap.size A xs) (hn : xs.length ≤ 40000) (hT : Wd w) :
  Calls Tryz.prog 15 #[pz g] w fun e w' => ∃ v, e = .returned v ∧ ∃ l left er vP cs, v = .tuple #[vP, iz er] ∧ Fed xs l left er ∧ w'.ownsRow w.heap.size 49 24 vP l.length cs ∧ PR w' w.heap.size l cs ∧ Below w.heap.size w w' := by
 go_enter Tryz.func15, Tryz.ntmps15
 refine Has.start 18 [(0, pz g)] rfl rfl ⟨rfl, trivial⟩ ?_
 intro a0 H0
 refine H0.rg 2 fun a H => nt ?_
 refine H.rg 3 fun a H => ?_
 refine H.ld 0 (load1_31 _ _ _ _ _ _ (hC.get 7 _ rfl)) fun a H => ?_
 have KK : Calls Tryz.prog 56 #[nilV, .slice A xs.length c] w fun e w' => ∃ v, e = .returned v ∧ ∃ l left er vP AL cL cs, v = .tuple #[vP, .slice AL left.length cL, iz er] ∧ Fed xs l left er ∧ w'.ownsRow w.heap.size 49 24 vP l.length cs ∧ PR w' w.heap.size l cs ∧ Below w.heap.size w w' := (feedW [] xs none A 0 c w RB.nil hx (by decide) hn hT).mono fun _ _ ⟨l, left, er, vP, AL, cL, cs, h1, h2, h3, h4, _, h6⟩ => ⟨_, h2, l, left, er, vP, AL, cL, cs, rfl, h1, h3, h4, h6⟩
 refine H.cl KK ?_
 rintro a _ w1 ⟨l, left, er, vP, AL, cL, cs, rfl, hF, hO, hP, hb⟩ H
 refine H.ms 1 fun a H => ?_
 refine H.ex (r := vP) 0 fun a H => ?_
 refine H.ex (r := .slice AL left.length cL) 0 fun a H => ?_
 refine H.ex (r := iz er) 3 fun a H => nt ?_
 refine H.rg 4 fun a H => nt (wp_ret ?_)
 repeat (first | (with_reducible refine block_ret ?_) | (with_reducible refine then_ret ?_))
 exact bodyPost_ret (results_pair rfl _ _ _ (H.at_ 2 _ rfl) (H.at_ 3 _ rfl)) H.df ⟨_, rfl, l, left, er, vP, cs, rfl, hF, hO, hP, hb⟩
end
section
open Go.RowKit
def FrIs (b : Nat) (x : List UInt8) (u : Value) (w : World) : Prop := ∃ A c, u = .slice A x.length c ∧ x.length ≤ c ∧ RBS w (fun k => b ≤ k) A x
theorem FrIs.next {b : Nat} {x : List UInt8} {u : Value} {w w' : World} (h : FrIs b x u w) (hb : Below w.heap.size w w') : FrIs b x u w' := by
 obtain ⟨A, c, h1, h2, h3⟩ := h
 exact ⟨A, c, h1, h2, h3.grown (below_grown hb none) (fun k e => by cases e)⟩
theorem FrIs.of {b : Nat} {x : List UInt8} {u : Value} {w : World} (h : RowIs b x u w) : FrIs b x u w := by
 obtain ⟨A, c, rfl, hO⟩ := h
 exact ⟨A, c, rfl, own_cap hO, (RBS.of_row hO rfl).mono fun k _ hk => hk.1⟩
theorem RowIs.next {b : Nat} {xs : List UInt8} {v : Value} {w w' : World} (h : RowIs b xs v w) (hb : Below w.heap.size w w') : RowIs b xs v w' := h.below hb
theorem RowIs.rb {b n c : Nat} {A : Option Addr} {xs : List UInt8} {w : World} (h : RowIs b xs (.slice A n c) w) : RB w w.heap.size A xs := by
 obtain ⟨A', c', e, hr⟩ := h.read
 injection e with e1 _ _
 rw [e1]
 exact hr
section
variable {ops : Array Oper} {Q : Exit → Act → World → Prop} {n : Nat} {l : List (Nat × Value)} {Wp : World → Prop} {i s : Nat} {v : Value} {o : Oper}
end
end
section
open Go.RowKit
def FrmAt (w : World) (r : Frm × Int) (v : Value) (w' : World) : Prop :=
 ∃ A c, v = .tuple #[.agg #[iz r.1.d, iz r.1.s, iz r.1.t, .slice A r.1.xs.length c], iz r.2] ∧ w'.ownsRow w.heap.size 5 1 (.slice A r.1.xs.length c) r.1.xs.length (r.1.xs.map bv) ∧ Below w.heap.size w w'
theorem size_frm : (Tryz.prog.info? 85).map (·.size) = some 4 := by kernel_rfl
theorem zero_frm (w : World) : (zeroValue 85).run Tryz.prog w = .ok (.agg ([iz 0, iz 0, iz 0, nilV] : List Value).toArray) w := by kernel_rfl
theorem take_drop6 (xs : List UInt8) (k m : Nat) : (xs.take (k + m)).drop k = (xs.drop k).take m := by
 rw [List.drop_take, Nat.add_sub_cancel_left]
theorem copyNC (xs : List UInt8) (n : Nat) (hl : xs.length = n) (A : Option Addr) (c : Nat) (w : World) (hx : RB w w.heap.size A xs) (hn : n ≤ 140737488351232) :
  Calls Tryz.prog 59 #[.slice A n c] w fun e w' => ∃ v, e = .returned v ∧ (∃ A' c', v = .slice A' n c' ∧ w'.ownsRow w.heap.size 5 1 (.slice A' n c') n (xs.map bv) ∧ Below w.heap.size w w') :=
 (copyN xs n hl A c w hx hn).mono fun _ _ ⟨A', c', h1, h2⟩ => ⟨_, h1, A', c', rfl, h2⟩
theorem parseFrame (xs : List UInt8) (n : Nat) (hn : xs.length = n) (A : Option Addr) (c : Nat) (hnc : n ≤ c) (w : World) (hx : RB w w.heap.size A xs) (hl : n ≤ 140737488351232) :
  Calls Tryz.prog 78 #[.slice A n c] w fun e w' => ∃ v, e = .returned v ∧ FrmAt w (frOut xs) v w' := by
 go_enter Tryz.func78, Tryz.ntmps78
 refine Has.start 25 [(0, .slice A n c)] rfl rfl ⟨rfl, trivial⟩ ?_
 intro a0 H0
 have O0 := Own.start w
 refine rl ?_
 refine H0.al O0 1 zero_frm fun a1 w1 O1 H1 => nt ?_
 generalize hg : w.heap.size = g at O1 H1
 refine H1.rg 1 fun a2 H2 => ?_
 refine H2.len gz rfl rfl rfl rfl Tryz.underlying31 fun a3 H3 => ?_
 by_cases h14 : n < 14
 ·refine H3.bb 0 rfl rfl rfl rfl rfl rfl (lss_i _ _ true (by rw [decide_eq_true_iff]; omega) _ _ _) rfl fun a4 H4 => nt (H4.condT rfl ?_)
  refine rl ?_
  refine H4.any (w' := w1) gz rfl rfl (.agg ([iz 0, iz 0, iz 0, nilV] : List Value).toArray) (by intro cs b h; cases h) (by kernel_rfl) (by kernel_rfl) fun a5 H5 => ?_
  refine H5.st O1 0 1 (L := [iz 0, iz 0, iz 0, nilV]) (fun a6 w2 O2 H6 => nt (wp_ret ?_)) size_frm
  repeat (first | (with_reducible refine block_ret ?_) | (with_reducible refine then_ret ?_))
  refine bodyPost_ret (results_two Tryz.results78 _ _ _ (H6.at_ 2 _ rfl) (H6.at_ 3 _ rfl) (O2.get 0 rfl) Tryz.underlying85 rfl _ size_frm rfl) H6.df ⟨_, rfl, ?_⟩
  unfold frOut
  rw [if_pos (by omega)]
  exact ⟨none, 0, rfl, World.ownsRow_nil _ _ _ _, hg ▸ O2.bel⟩
 refine H3.bb 0 rfl rfl rfl rfl rfl rfl (lss_i _ _ false (by rw [decide_eq_false_iff_not]; omega) _ _ _) rfl fun a4 H4 => nt (H4.condF rfl (skip_wp (then_normal ?_)))
 refine H4.rg 1 fun a5 H5 => ?_
 refine H5.len gz rfl rfl rfl rfl Tryz.underlying31 fun a6 H6 => ?_
 by_cases h15 : 1514 < n
 ·refine H6.bb 0 rfl rfl rfl rfl rfl rfl (gtr_i _ _ true (by rw [decide_eq_true_iff]; omega) _ _ _) rfl fun a7 H7 => nt (H7.condT rfl ?_)
  refine rl ?_
  refine H7.any (w' := w1) gz rfl rfl (.agg ([iz 0, iz 0, iz 0, nilV] : List Value).toArray) (by intro cs b h; cases h) (by kernel_rfl) (by kernel_rfl) fun a8 H8 => ?_
  refine H8.st O1 0 1 (L := [iz 0, iz 0, iz 0, nilV]) (fun a9 w2 O2 H9 => nt (wp_ret ?_)) size_frm
  repeat (first | (with_reducible refine block_ret ?_) | (with_reducible refine then_ret ?_))
  refine bodyPost_ret (results_two Tryz.results78 _ _ _ (H9.at_ 2 _ rfl) (H9.at_ 3 _ rfl) (O2.get 0 rfl) Tryz.underlying85 rfl _ size_frm rfl) H9.df ⟨_, rfl, ?_⟩
  unfold frOut
  rw [if_neg (by omega), if_pos (by omega)]
  exact ⟨none, 0, rfl, World.ownsRow_nil _ _ _ _, hg ▸ O2.bel⟩
 refine H6.bb 0 rfl rfl rfl rfl rfl rfl (gtr_i _ _ false (by rw [decide_eq_false_iff_not]; omega) _ _ _) rfl fun a7 H7 => nt (H7.condF rfl (skip_wp (then_normal ?_)))
 replace H7 := H7.kp [0, 2]
 have l1 : (xs.take 6).length = 6 := by rw [List.length_take]; omega
 have l2 : ((xs.drop 6).take 6).length = 6 := by rw [List.length_take, List.length_drop]; omega
 have l3 : ((xs.drop 12).take 2).length = 2 := by rw [List.length_take, List.length_drop]; omega
 have l4 : (xs.drop 14).length = n - 14 := by rw [List.length_drop]; omega
 have bl : ∀ {w' : World}, Own w g [(g, [iz 0, iz 0, iz 0, nilV])] w' → Below w.heap.size w w' := fun h => hg ▸ h.bel
 have r2 : ∀ {w' : World}, Below w.heap.size w w' → RB w' w'.heap.size (if c = 6 then A else A.map (·.add 6)) ((xs.drop 6).take 6) := fun h => by
  have := ((hx.next h).take 12).cut (k := 6) (cap := c) (by rw [List.length_take]; omega) (by rw [List.length_take]; omega)
  rw [show (12 : Nat) = 6 + 6 from rfl, take_drop6] at this
  exact this
 have r3 : ∀ {w' : World}, Below w.heap.size w w' → RB w' w'.heap.size (if c = 12 then A else A.map (·.add 12)) ((xs.drop 12).take 2) := fun h => by
  have := ((hx.next h).take 14).cut (k := 12) (cap := c) (by rw [List.length_take]; omega) (by rw [List.length_take]; omega)
  rw [show (14 : Nat) = 12 + 2 from rfl, take_drop6] at this
  exact this
 have r4 : ∀ {w' : World}, Below w.heap.size w w' → RB w' w'.heap.size (if c = 14 then A else A.map (·.add 14)) (xs.drop 14) := fun h => (hx.next h).cut (k := 14) (cap := c) (by omega) (by omega)
 refine H7.sg (fun w' => Own w g [(g, [iz 0, iz 0, iz 0, nilV])] w') O1.drew [0, 2]
  [ec 0 12 (.slice A n c), ec 1 13 (.slice A 6 c), ec 2 14 (iz (num2 xs 0 6)), ec 3 15 (.slice A n c), ec 4 16 (.slice (if c = 6 then A else A.map (·.add 6)) 6 (c - 6)), ec 5 17 (iz (num2 xs 6 6)), ec 6 18 (.slice A n c), ec 7 19 (.slice (if c = 12 then A else A.map (·.add 12)) 2 (c - 12)), ec 8 20 (iz (num2 xs 12 2)),
   ec 9 21 (.slice A n c), ec 10 22 (.slice (if c = 14 then A else A.map (·.add 14)) (n - 14) (c - 14)), ec 14 3 (iz 0)] rfl ?_
 refine St.call 11 ⟨jm, jh fun _ => slice_h A n c 6 (by omega) hnc _, jq fun w' h => ofW (xs.take 6) 6 l1 A c w' ((hx.next (bl h)).take 6) (by decide), jm, js2 fun _ => slice_lh A n c 6 12 (by decide) (by omega) hnc _, jq fun w' h => ofW _ 6 l2 _ _ w' (r2 (bl h)) (by decide), jm, js2 fun _ => slice_lh A n c 12 14 (by decide) (by omega) hnc _, jq fun w' h => ofW _ 2 l3 _ _ w' (r3 (bl h)) (by decide), jm, js1 fun _ => slice_lo A n c 14 (by omega) hnc _, jm, trivial⟩
  (fun wy h => copyNC (xs.drop 14) (n - 14) l4 _ (c - 14) wy (r4 (bl h)) (by omega)) ?_
 rintro wy _ wz hh ⟨A1, c1, rfl, hO, hb⟩
 have hgy : g < wy.heap.size := hh.lt 0 rfl
 have Oz := hh.call hb
 clear hb
 generalize wy.heap.size = bb at hO hgy
 refine nx (fun w' => Own w g [(g, [iz 0, iz 0, iz 0, nilV])] w' ∧ w'.ownsRow bb 5 1 (.slice A1 (n - 14) c1) (n - 14) ((xs.drop 14).map bv)) [ec 12 24 (.agg ([iz (num2 xs 0 6), iz (num2 xs 6 6), iz (num2 xs 12 2), .slice A1 (n - 14) c1] : List Value).toArray)] [] ⟨Oz, hO⟩ ?_
 refine St.sto 13 ⟨ja (fun _ => by kernel_rfl), jm, trivial⟩ ?_
 rintro a8 wu H8 _ ⟨Ou, hOu⟩
 obtain ⟨w', hr, hg2, hs2, hC2⟩ := (Ou.get 0 rfl).sto (L := [iz (num2 xs 0 6), iz (num2 xs 6 6), iz (num2 xs 12 2), .slice A1 (n - 14) c1]) size_frm rfl rfl rfl
 refine ⟨w', run_store rfl (H8.ev rfl) (H8.ev rfl) hr, nx0 (fun w' => Own w g [(g, [iz (num2 xs 0 6), iz (num2 xs 6 6), iz (num2 xs 12 2), .slice A1 (n - 14) c1])] w' ∧ w'.ownsRow bb 5 1 (.slice A1 (n - 14) c1) (n - 14) ((xs.drop 14).map bv)) [] [] ⟨Ou.store 0 rfl hg2 hs2 hC2, hOu.kept hg2 (.inr (own_ne hOu (.inl hgy)).symm)⟩ ?_⟩
 refine St.fin ⟨jm, trivial⟩ ?_ (hF := .inl rfl)
 rintro a9 w3 H9 _ ⟨O3, hO3⟩
 refine then_normal (wp_ret ?_)
 repeat (first | (with_reducible refine block_ret ?_) | (with_reducible refine then_ret ?_))
 refine bodyPost_ret (results_two Tryz.results78 _ _ _ (H9.at_ 2 _ rfl) (H9.at_ 3 _ rfl) (O3.get 0 rfl) Tryz.underlying85 rfl _ size_frm rfl) H9.df ⟨_, rfl, ?_⟩
 unfold frOut
 rw [if_neg (by omega), if_neg (by omega)]
 refine ⟨A1, c1, ?_, ?_, hg ▸ O3.bel⟩
 ·simp only [l4]
 ·simp only [l4]
  exact own_base hO3 (by omega)
end
section
open Go.RowKit
theorem and_frag_i (v : Nat) (h : v < 65536) (x y : Operand) (w : World) : (do eqGuard .and 3 x y (iz v) (iz 16383); binOp .and 3 (iz v) (iz 16383) : Sem Value).run Tryz.prog w = .ok (iz ((v % 16384 : Nat) : Int)) w := by
 have g : ∀ (u v : Int) (w : World), (do eqGuard .and 3 x y (iz u) (iz v); binOp .and 3 (iz u) (iz v) : Sem Value).run Tryz.prog w = .ok (iz (bits .and .i64 u v)) w := fun _ _ _ => by kernel_rfl
 rw [← and_frag v h]
 exact g _ _ _
theorem copyE (y : List UInt8) (n : Nat) (hn : y.length = n) (A : Option Addr) (c : Nat) (w : World) (hx : RB w w.heap.size A y) (hl : n ≤ 140737488351232) :
  Calls Tryz.prog 59 #[.slice A n c] w fun e w' => ∃ v, e = .returned v ∧ (∃ A' c', v = .slice A' n c' ∧ w'.ownsRow w.heap.size 5 1 (.slice A' n c') n (y.map bv) ∧ Below w.heap.size w w') :=
 (copyN y n hn A c w hx hl).mono fun _ _ ⟨A', c', h1, h2, h3⟩ => ⟨_, h1, A', c', rfl, h2, h3⟩
theorem ofN (xs : List UInt8) (n : Nat) (hl : xs.length = n) (A : Option Addr) (c : Nat) (hnc : n ≤ c) (w : World) (hx : RB w w.heap.size A xs) (k m : Nat) (hkm : k + m ≤ n) (hm : m ≤ 7) (v : Nat) (hv : num2 xs k m = v) :
  Calls Tryz.prog 107 #[.slice (if c = k then A else A.map (·.add k)) m (c - k)] w fun e w' => e = .returned (iz v) ∧ w = w' := by
 subst hv
 exact ofW ((xs.drop k).take m) m (by rw [List.length_take, List.length_drop]; omega) _ _ w (hx.piece (by omega) (by omega)) hm
theorem refParsePkN (xs : List UInt8) (n : Nat) (hl : xs.length = n) (A : Option Addr) (c : Nat) (hnc : n ≤ c) (w : World) (hx : RB w w.heap.size A xs) (hn : n ≤ 140737488351232) :
    Calls Tryz.prog 96 #[.slice A n c] w (PkParsed w (parseOut xs)) := by
  go_enter Tryz.func96, Tryz.ntmps96
  refine Has.start 78 [(0, .slice A n c)] rfl rfl ⟨rfl, trivial⟩ ?_
  intro a0 H0
  refine rl ?_
  refine H0.al (Own.start w) 1 zero_pkN fun a w1 O1 H => nt ?_
  obtain ⟨g, hg⟩ : ∃ g, w.heap.size = g := ⟨_, rfl⟩
  rw [hg] at O1 H
  have bl : ∀ {bs : List (Nat × List Value)} {w'}, Own w g bs w' → Below w.heap.size w w' := fun h => hg ▸ h.bel
  have fin : ∀ (er : Int) (a : Act) (w2 : World), Has a 78 [(2, pz g), (3, iz er)] → Own w g [(g, pz6)] w2 → parseOut xs = (.zero, er) → bodyPost Tryz.prog Tryz.f96 (PkParsed w (parseOut xs)) .ret a w2 := fun er a w2 H O2 he => by
    refine bodyPost_ret (results_two Tryz.results96 _ _ _ (H.at_ 2 _ rfl) (H.at_ 3 _ rfl) (O2.get 0 rfl) Tryz.underlying89 rfl _ size_pkN rfl) H.df ?_
    rw [he]
    exact ⟨none, 0, rfl, World.ownsRow_nil _ _ _ _, bl O2⟩
  obtain ⟨N, hN⟩ : ∃ N, ipN xs = N := ⟨_, rfl⟩
  have hN60 : N ≤ 60 := by rw [← hN]; unfold ipN; omega
  obtain ⟨L, hL⟩ : ∃ L, num2 xs 2 2 = L := ⟨_, rfl⟩
  obtain ⟨S, hS⟩ : ∃ S, Sm.check (xs.take N) = S := ⟨_, rfl⟩
  obtain ⟨F, hF⟩ : ∃ F, num2 xs 6 2 = F := ⟨_, rfl⟩
  have x1 := hx.next (bl O1)
  refine H.rg 1 fun a H => ?_
  refine H.len gz rfl rfl rfl rfl Tryz.underlying31 fun a H => ?_
  by_cases h20 : n < 20
  · refine H.bb 0 rfl rfl rfl rfl rfl rfl (lss_i _ _ true (by rw [decide_eq_true_iff]; omega) _ _ _) rfl fun a H => nt (H.condT rfl ?_)
    refine rl ?_
    refine H.any (w' := w1) gz rfl rfl (.agg pz6.toArray) (by intro cs b h; cases h) (by kernel_rfl) (by kernel_rfl) fun a H => ?_
    refine H.st O1 0 1 (L := pz6) (fun a w2 O2 H => nt (wp_ret ?_)) size_pkN
    repeat (first | (with_reducible refine block_ret ?_) | (with_reducible refine then_ret ?_))
    exact fin 7 _ _ (H.keep ⟨rfl, rfl, trivial⟩) O2 (by unfold parseOut; rw [if_pos (by omega)])
  refine H.bb 0 rfl rfl rfl rfl rfl rfl (lss_i _ _ false (by rw [decide_eq_false_iff_not]; omega) _ _ _) rfl fun a H => nt (H.condF rfl (skip_wp (then_normal ?_)))
  replace H := H.kp [0, 2]
  obtain ⟨b, o, _, hA, hbB, _, _⟩ := x1.get (k := 0) (by omega)
  have hrb : ∀ {bs : List (Nat × List Value)} {w'}, Own w g bs w' → RB w' w'.heap.size (some ⟨b, o, none⟩) xs := fun h => hA ▸ hx.next (bl h)
  have c0 := (hrb O1).b8 (k := 0) (by omega)
  have hix : ∀ k, k < n → ∀ w', (Instr.indexAt 31 (.slice A n c) (iz k)).run Tryz.prog w' = .ok (.pointer (some ⟨b, o + k, none⟩)) w' := fun k hk w' => by rw [hA]; exact index_1 31 Tryz.underlying31 (fun _ => by kernel_rfl) b o n c k hk w'
  have hb0 := b8_lt xs 0
  refine H.rg 1 fun a H => ?_
  refine H.index gz rfl rfl rfl rfl rfl (hix 0 (by omega) _) fun a H => ?_
  refine H.ld 0 (load1_u _ _ _ _ c0) fun a H => ?_
  refine H.bn 0 (and15_q (b8 xs 0) hb0 _ _ _) fun a H => ?_
  refine H.cv 0 (conv_uN (b8 xs 0 % 16) (by omega) _) fun a H => ?_
  refine H.bn 1 (mul4_i (b8 xs 0 % 16) (by omega) _ _ _) fun a H => nt ?_
  rw [show 4 * (b8 xs 0 % 16) = N from hN] at H
  replace H := H.kp [0, 2, 4]
  obtain ⟨z4, hz4⟩ : ∃ z, (((b8 xs 0 / 16 : Nat) : Int) != 4) = z := ⟨_, rfl⟩
  refine H.rg 1 fun a H => ?_
  refine H.index gz rfl rfl rfl rfl rfl (hix 0 (by omega) _) fun a H => ?_
  refine H.ld 0 (load1_u _ _ _ _ c0) fun a H => ?_
  refine H.bn 0 (shr4_q (b8 xs 0) hb0 _ _ _) fun a H => ?_
  refine H.bn 1 (neq_u8 _ _ z4 hz4 _ _ _) fun a H => ?_
  cases z4 with
  | true =>
    refine H.offs 2 rfl fun a H => ?_
    refine H.pick gz rfl rfl rfl rfl rfl fun a H => nt (H.condT rfl ?_)
    have h4 : b8 xs 0 / 16 ≠ 4 := by intro e; rw [e] at hz4; cases hz4
    refine rl ?_
    refine H.any (w' := w1) gz rfl rfl (.agg pz6.toArray) (by intro cs b h; cases h) (by kernel_rfl) (by kernel_rfl) fun a H => ?_
    refine H.st O1 0 1 (L := pz6) (fun a w2 O2 H => nt (wp_ret ?_)) size_pkN
    repeat (first | (with_reducible refine block_ret ?_) | (with_reducible refine then_ret ?_))
    exact fin 1 _ _ (H.keep ⟨rfl, rfl, trivial⟩) O2 (by unfold parseOut; rw [if_neg (by omega), if_pos (.inl h4)])
  | false =>
  have h4 : b8 xs 0 / 16 = 4 := by simpa [← Int.natCast_inj] using hz4
  refine H.go (H.wt rfl rfl rfl) rfl rfl _ (run_move (.inl rfl) (H.ev rfl)) fun a H => ?_
  by_cases hN20 : N < 20
  · refine H.bin (H.wt rfl rfl rfl) rfl rfl rfl rfl rfl (lss_i _ _ true (by rw [decide_eq_true_iff]; omega) _ _ _) fun a H => ?_
    refine H.pick gz rfl rfl rfl rfl rfl fun a H => nt (H.condT rfl ?_)
    refine rl ?_
    refine H.any (w' := w1) gz rfl rfl (.agg pz6.toArray) (by intro cs b h; cases h) (by kernel_rfl) (by kernel_rfl) fun a H => ?_
    refine H.st O1 0 1 (L := pz6) (fun a w2 O2 H => nt (wp_ret ?_)) size_pkN
    repeat (first | (with_reducible refine block_ret ?_) | (with_reducible refine then_ret ?_))
    exact fin 1 _ _ (H.keep ⟨rfl, rfl, trivial⟩) O2 (by unfold parseOut; rw [if_neg (by omega), if_pos (.inr (by omega))])
  refine H.bin (H.wt rfl rfl rfl) rfl rfl rfl rfl rfl (lss_i _ _ false (by rw [decide_eq_false_iff_not]; omega) _ _ _) fun a H => ?_
  refine H.pick gz rfl rfl rfl rfl rfl fun a H => nt (H.condF rfl (skip_wp (then_normal ?_)))
  have hg2 : ¬ (b8 xs 0 / 16 ≠ 4 ∨ ipN xs < 20) := by omega
  replace H := H.kp [0, 2, 4]
  refine H.rg 1 fun a H => ?_
  refine H.len gz rfl rfl rfl rfl Tryz.underlying31 fun a H => ?_
  refine H.ms 1 fun a H => ?_
  by_cases hnN : n < N
  · refine H.bb 0 rfl rfl rfl rfl rfl rfl (lss_i _ _ true (by rw [decide_eq_true_iff]; omega) _ _ _) rfl fun a H => nt (H.condT rfl ?_)
    refine rl ?_
    refine H.any (w' := w1) gz rfl rfl (.agg pz6.toArray) (by intro cs b h; cases h) (by kernel_rfl) (by kernel_rfl) fun a H => ?_
    refine H.st O1 0 1 (L := pz6) (fun a w2 O2 H => nt (wp_ret ?_)) size_pkN
    repeat (first | (with_reducible refine block_ret ?_) | (with_reducible refine then_ret ?_))
    exact fin 7 _ _ (H.keep ⟨rfl, rfl, trivial⟩) O2 (by unfold parseOut; rw [if_neg (by omega), if_neg hg2, if_pos (by omega)])
  refine H.bb 0 rfl rfl rfl rfl rfl rfl (lss_i _ _ false (by rw [decide_eq_false_iff_not]; omega) _ _ _) rfl fun a H => nt (H.condF rfl (skip_wp (then_normal ?_)))
  replace H := H.kp [0, 2, 4]
  refine H.rg 1 fun a H => ?_
  refine H.go gz rfl rfl _ (run_slice rfl (H.ev rfl) (H.ev rfl) (H.ev rfl) (slice_lh A n c 2 4 (by decide) (by omega) hnc _)) fun a H => ?_
  refine H.cq 1 (ofN xs n hl A c hnc w1 x1 2 2 (by omega) (by decide) L hL) fun a H => nt ?_
  replace H := H.kp [0, 2, 4, 5]
  refine H.rg 2 fun a H => ?_
  by_cases hLN : L < N
  · refine H.bb 0 rfl rfl rfl rfl rfl rfl (lss_i _ _ true (by rw [decide_eq_true_iff]; omega) _ _ _) rfl fun a H => nt (H.condT rfl ?_)
    refine rl ?_
    refine H.any (w' := w1) gz rfl rfl (.agg pz6.toArray) (by intro cs b h; cases h) (by kernel_rfl) (by kernel_rfl) fun a H => ?_
    refine H.st O1 0 1 (L := pz6) (fun a w2 O2 H => nt (wp_ret ?_)) size_pkN
    repeat (first | (with_reducible refine block_ret ?_) | (with_reducible refine then_ret ?_))
    exact fin 1 _ _ (H.keep ⟨rfl, rfl, trivial⟩) O2 (by unfold parseOut; rw [if_neg (by omega), if_neg hg2, if_neg (by omega), if_pos (by omega)])
  refine H.bb 0 rfl rfl rfl rfl rfl rfl (lss_i _ _ false (by rw [decide_eq_false_iff_not]; omega) _ _ _) rfl fun a H => nt (H.condF rfl (skip_wp (then_normal ?_)))
  replace H := H.kp [0, 2, 4, 5]
  refine H.rg 1 fun a H => ?_
  refine H.len gz rfl rfl rfl rfl Tryz.underlying31 fun a H => ?_
  refine H.ms 1 fun a H => ?_
  by_cases hnL : n < L
  · refine H.bb 0 rfl rfl rfl rfl rfl rfl (lss_i _ _ true (by rw [decide_eq_true_iff]; omega) _ _ _) rfl fun a H => nt (H.condT rfl ?_)
    refine rl ?_
    refine H.any (w' := w1) gz rfl rfl (.agg pz6.toArray) (by intro cs b h; cases h) (by kernel_rfl) (by kernel_rfl) fun a H => ?_
    refine H.st O1 0 1 (L := pz6) (fun a w2 O2 H => nt (wp_ret ?_)) size_pkN
    repeat (first | (with_reducible refine block_ret ?_) | (with_reducible refine then_ret ?_))
    exact fin 7 _ _ (H.keep ⟨rfl, rfl, trivial⟩) O2 (by unfold parseOut; rw [if_neg (by omega), if_neg hg2, if_neg (by omega), if_neg (by omega), if_pos (by omega)])
  refine H.bb 0 rfl rfl rfl rfl rfl rfl (lss_i _ _ false (by rw [decide_eq_false_iff_not]; omega) _ _ _) rfl fun a H => nt (H.condF rfl (skip_wp (then_normal ?_)))
  replace H := H.kp [0, 2, 4, 5]
  refine H.rg 2 fun a H => ?_
  refine H.go gz rfl rfl _ (run_slice_h rfl (H.ev rfl) (H.ev rfl) (slice_h A n c N (by omega) hnc _)) fun a H => ?_
  refine H.cq 0 (hS ▸ refCheck (xs.take N) N (by rw [List.length_take]; omega) A c w1 (x1.take N) (by omega)) fun a H => ?_
  obtain ⟨zs, hzs⟩ : ∃ z, ((S : Int) != 0) = z := ⟨_, rfl⟩
  refine H.bn 0 (neq_3 _ _ zs hzs _ _ _) fun a H => nt ?_
  cases zs with
  | true =>
    refine H.condT rfl ?_
    have h8 : S ≠ 0 := by intro e; rw [e] at hzs; cases hzs
    refine rl ?_
    refine H.any (w' := w1) gz rfl rfl (.agg pz6.toArray) (by intro cs b h; cases h) (by kernel_rfl) (by kernel_rfl) fun a H => ?_
    refine H.st O1 0 1 (L := pz6) (fun a w2 O2 H => nt (wp_ret ?_)) size_pkN
    repeat (first | (with_reducible refine block_ret ?_) | (with_reducible refine then_ret ?_))
    exact fin 8 _ _ (H.keep ⟨rfl, rfl, trivial⟩) O2 (by unfold parseOut; rw [if_neg (by omega), if_neg hg2, if_neg (by omega), if_neg (by omega), if_neg (by omega), hN, hS, if_pos h8])
  | false =>
  have h8 : S = 0 := by simpa using hzs
  refine H.condF rfl (skip_wp (then_normal ?_))
  replace H := H.kp [0, 2, 4, 5]
  have hFl : F < 65536 := hF ▸ num2_ltp xs 6 2
  refine H.rg 1 fun a H => ?_
  refine H.go gz rfl rfl _ (run_slice rfl (H.ev rfl) (H.ev rfl) (H.ev rfl) (slice_lh A n c 6 8 (by decide) (by omega) hnc _)) fun a H => ?_
  refine H.cq 0 (ofN xs n hl A c hnc w1 x1 6 2 (by omega) (by decide) F hF) fun a H => ?_
  refine H.bn 0 (and_frag_i F hFl _ _ _) fun a H => ?_
  obtain ⟨zf, hzf⟩ : ∃ z, (((F % 16384 : Nat) : Int) != 0) = z := ⟨_, rfl⟩
  refine H.bn 0 (neq_3 _ _ zf hzf _ _ _) fun a H => nt ?_
  have hrest : parseOut xs = if F % 16384 ≠ 0 then (.zero, 9) else (parsed xs, 0) := by unfold parseOut; rw [if_neg (by omega), if_neg hg2, if_neg (by omega), if_neg (by omega), if_neg (by omega), hN, hS, if_neg (by omega), hF]
  cases zf with
  | true =>
    refine H.condT rfl ?_
    have h9 : F % 16384 ≠ 0 := by intro e; rw [e] at hzf; cases hzf
    refine rl ?_
    refine H.any (w' := w1) gz rfl rfl (.agg pz6.toArray) (by intro cs b h; cases h) (by kernel_rfl) (by kernel_rfl) fun a H => ?_
    refine H.st O1 0 1 (L := pz6) (fun a w2 O2 H => nt (wp_ret ?_)) size_pkN
    repeat (first | (with_reducible refine block_ret ?_) | (with_reducible refine then_ret ?_))
    exact fin 9 _ _ (H.keep ⟨rfl, rfl, trivial⟩) O2 (by rw [hrest, if_pos h9])
  | false =>
  rw [if_neg (by have : ((F % 16384 : Nat) : Int) = 0 := by simpa using hzf
                 omega)] at hrest
  refine H.condF rfl (skip_wp (then_normal ?_))
  replace H := H.kp [0, 2, 4, 5]
  have hcl : ((xs.take L).drop N).length = L - N := by rw [List.length_drop, List.length_take]; omega
  refine H.sg (fun w' => Own w g [(g, pz6)] w') O1.drew [0, 2, 4, 5] [ec 0 55 (.slice A n c), ec 1 56 (.slice (if c = 12 then A else A.map (·.add 12)) 4 (c - 12)), ec 2 57 (iz (num2 xs 12 4)), ec 3 58 (.slice A n c), ec 4 59 (.slice (if c = 16 then A else A.map (·.add 16)) 4 (c - 16)), ec 5 60 (iz (num2 xs 16 4)), ec 6 61 (.slice A n c), ec 7 62 (.pointer (some ⟨b, o + 9, none⟩)), ec 8 63 (.int .u8 ((b8 xs 9 : Nat) : Int)), ec 9 64 (iz (b8 xs 9)), ec 10 65 (.slice A n c), ec 11 66 (.pointer (some ⟨b, o + 8, none⟩)), ec 12 67 (.int .u8 ((b8 xs 8 : Nat) : Int)), ec 13 68 (iz (b8 xs 8)), ec 14 69 (.slice A n c), ec 15 70 (.slice (if c = 4 then A else A.map (·.add 4)) 2 (c - 4)), ec 16 71 (iz (num2 xs 4 2)), ec 17 72 (.slice A n c), ec 18 73 (iz N), ec 19 74 (iz L), ec 20 75 (.slice (if c = N then A else A.map (·.add N)) (L - N) (c - N)), ec 24 3 (iz 0)] rfl ?_
  refine St.call 21 ⟨jm, js2 fun _ => slice_lh A n c 12 16 (by omega) (by omega) hnc _, jq fun w' h => ofN xs n hl A c hnc w' (hx.next (bl h)) 12 4 (by omega) (by decide) _ rfl, jm, js2 fun _ => slice_lh A n c 16 20 (by omega) (by omega) hnc _, jq fun w' h => ofN xs n hl A c hnc w' (hx.next (bl h)) 16 4 (by omega) (by decide) _ rfl, jm, jI rfl rfl rfl rfl rfl rfl (hix 9 (by omega)), jl fun _ h => load1_u _ _ _ _ ((hrb h).b8 (k := 9) (by omega)), jc fun _ => conv_uN (b8 xs 9) (b8_lt xs 9) _, jm, jI rfl rfl rfl rfl rfl rfl (hix 8 (by omega)), jl fun _ h => load1_u _ _ _ _ ((hrb h).b8 (k := 8) (by omega)), jc fun _ => conv_uN (b8 xs 8) (b8_lt xs 8) _, jm, js2 fun _ => slice_lh A n c 4 6 (by omega) (by omega) hnc _, jq fun w' h => ofN xs n hl A c hnc w' (hx.next (bl h)) 4 2 (by omega) (by decide) _ rfl, jm, jm, jm, js2 fun _ => slice_lh A n c N L (by omega) (by omega) hnc _, jm, trivial⟩ (fun wy h => copyE ((xs.take L).drop N) (L - N) hcl _ (c - N) wy (((hx.next (bl h)).take L).cut (k := N) (cap := c) (by rw [List.length_take]; omega) (by rw [List.length_take]; omega)) (by omega)) ?_
  rintro wy _ wz hh ⟨A1, c1, rfl, hO, hb⟩
  have hgy : g < wy.heap.size := hh.lt 0 rfl
  have Oz := hh.call hb
  clear hb
  generalize wy.heap.size = bb at hO hgy
  refine nx (fun w' => Own w g [(g, pz6)] w' ∧ w'.ownsRow bb 5 1 (.slice A1 (L - N) c1) (L - N) (((xs.take L).drop N).map bv)) [ec 22 77 (.agg ([iz (num2 xs 12 4), iz (num2 xs 16 4), iz (b8 xs 9), iz (b8 xs 8), iz (num2 xs 4 2), .slice A1 (L - N) c1] : List Value).toArray)] [] ⟨Oz, hO⟩ ?_
  refine St.sto 23 ⟨ja (fun _ => by kernel_rfl), jm, jI rfl rfl rfl rfl rfl rfl (hix 9 (by omega)), jl fun _ h => load1_u _ _ _ _ ((hrb h.1).b8 (k := 9) (by omega)), jc fun _ => conv_uN (b8 xs 9) (b8_lt xs 9) _, jm, jI rfl rfl rfl rfl rfl rfl (hix 8 (by omega)), jl fun _ h => load1_u _ _ _ _ ((hrb h.1).b8 (k := 8) (by omega)), jc fun _ => conv_uN (b8 xs 8) (b8_lt xs 8) _, jm, trivial⟩ ?_
  rintro a wu H _ ⟨Ou, hOu⟩
  obtain ⟨w', hr, hg3, hs3, hC3⟩ := (Ou.get 0 rfl).sto (L := [iz (num2 xs 12 4), iz (num2 xs 16 4), iz (b8 xs 9), iz (b8 xs 8), iz (num2 xs 4 2), .slice A1 (L - N) c1]) size_pkN rfl rfl rfl
  refine ⟨w', run_store rfl (H.ev rfl) (H.ev rfl) hr, nx0 (fun w' => Own w g [(g, [iz (num2 xs 12 4), iz (num2 xs 16 4), iz (b8 xs 9), iz (b8 xs 8), iz (num2 xs 4 2), .slice A1 (L - N) c1])] w' ∧ w'.ownsRow bb 5 1 (.slice A1 (L - N) c1) (L - N) (((xs.take L).drop N).map bv)) [] [] ⟨Ou.store 0 rfl hg3 hs3 hC3, hOu.kept hg3 (.inr (own_ne hOu (.inl hgy)).symm)⟩ (St.fin ⟨jm, trivial⟩ ?_ (hF := .inl rfl))⟩
  rintro a w3 H _ ⟨O3, hO3⟩
  refine then_normal (wp_ret ?_)
  repeat (first | (with_reducible refine block_ret ?_) | (with_reducible refine then_ret ?_))
  refine bodyPost_ret (results_two Tryz.results96 _ _ _ (H.at_ 2 _ rfl) (H.at_ 3 _ rfl) (O3.get 0 rfl) Tryz.underlying89 rfl _ size_pkN rfl) H.df ?_
  rw [hrest]
  unfold parsed
  rw [hN, hL]
  refine ⟨A1, c1, ?_, ?_, bl O3⟩
  · simp only [hcl]
  · simp only [hcl]; exact own_base hO3 (by omega)
end
section
open Go.RowKit
theorem and63_u (v : Nat) (h : v < 256) (x y : Operand) (w : World) : (do eqGuard .and 5 x y (.int .u8 (v : Int)) (.int .u8 63); binOp .and 5 (.int .u8 (v : Int)) (.int .u8 63) : Sem Value).run Tryz.prog w = .ok (.int .u8 ((v % 64 : Nat) : Int)) w := by
 have e : bits .and .u8 (v : Int) 63 = ((v % 64 : Nat) : Int) := by
  have := u8_and_nat v 63 h (by omega)
  rw [show (63 : Nat) = 2 ^ 6 - 1 from rfl, Nat.and_two_pow_sub_one_eq_mod] at this
  exact this
 rw [← e]
 exact and_u8 _ _ _ _ _
theorem refParseSegN (src dst : Int) (xs : List UInt8) (n : Nat) (hl : xs.length = n) (A : Option Addr) (c : Nat) (hnc : n ≤ c) (w : World) (hx : RB w w.heap.size A xs) (hn : n ≤ 140737488351232) :
  Calls Tryz.prog 97 #[iz src, iz dst, .slice A n c] w (SegParsed w (segOut src dst xs)) := by
 go_enter Tryz.func97, Tryz.ntmps97
 refine Has.start 75 [(0, iz src), (1, iz dst), (2, .slice A n c)] rfl rfl ⟨rfl, rfl, rfl, trivial⟩ ?_
 intro a0 H0
 refine rl ?_
 refine H0.al (Own.start w) 1 zero_sgN fun a w1 O1 H => nt ?_
 obtain ⟨g, hg⟩ : ∃ g, w.heap.size = g := ⟨_, rfl⟩
 rw [hg] at O1 H
 have bl : ∀ {bs : List (Nat × List Value)} {w'}, Own w g bs w' → Below w.heap.size w w' := fun h => hg ▸ h.bel
 have fin : ∀ (er : Int) (a : Act) (w2 : World), Has a 75 [(6, pz g), (7, iz er)] → Own w g [(g, sz7)] w2 → segOut src dst xs = (.zero, er) → bodyPost Tryz.prog Tryz.f97 (SegParsed w (segOut src dst xs)) .ret a w2 := fun er a w2 H O2 he => by
  refine bodyPost_ret (results_two Tryz.results97 _ _ _ (H.at_ 6 _ rfl) (H.at_ 7 _ rfl) (O2.get 0 rfl) Tryz.underlying36 rfl _ size_sgN rfl) H.df ?_
  rw [he]
  exact ⟨none, 0, rfl, World.ownsRow_nil _ _ _ _, bl O2⟩
 obtain ⟨N, hN⟩ : ∃ N, sgN xs = N := ⟨_, rfl⟩
 have hN60 : N ≤ 60 := by have := b8_lt xs 12; rw [← hN]; unfold sgN; omega
 have x1 := hx.next (bl O1)
 replace H := H.kp [0, 1, 2, 6]
 obtain ⟨b1, h1⟩ : ∃ b, wordB src = b := ⟨_, rfl⟩
 obtain ⟨b2, h2⟩ : ∃ b, wordB dst = b := ⟨_, rfl⟩
 refine H.rg 1 fun a H => ?_
 refine H.cq 0 (refWordV src b1 h1 w1) fun a H => ?_
 refine H.un gz rfl rfl rfl rfl (run_not b1 _) fun a H => ?_
 refine H.ms 1 fun a H => ?_
 cases b1 with
 | false =>
  refine H.offs 3 rfl fun a H => ?_
  refine H.pick gz rfl rfl rfl rfl rfl fun a H => nt (H.condT rfl ?_)
  refine rl ?_
  refine H.any (w' := w1) gz rfl rfl (.agg sz7.toArray) (by intro cs b h; cases h) (by kernel_rfl) (by kernel_rfl) fun a H => ?_
  refine H.st O1 0 1 (L := sz7) (fun a w9 O9 H => nt (wp_ret ?_)) size_sgN
  repeat (first | (with_reducible refine block_ret ?_) | (with_reducible refine then_ret ?_))
  exact fin 1 _ _ (H.keep ⟨rfl, rfl, trivial⟩) O9 (by unfold segOut; rw [if_pos (.inl h1)])
 | true =>
 refine H.go (H.wt rfl rfl rfl) rfl rfl _ (run_move (.inl rfl) (H.ev rfl)) fun a H => ?_
 refine H.call (H.wt rfl rfl rfl) rfl rfl rfl rfl (fun _ _ => by kernel_rfl) (quietC (refWordV dst b2 h2 w1)) ?_
 rintro a _ _ ⟨rfl, rfl⟩ H
 refine H.un (H.wt rfl rfl rfl) rfl rfl rfl rfl (run_not b2 _) fun a H => ?_
 refine H.pick gz rfl rfl rfl rfl rfl fun a H => nt ?_
 cases b2 with
 | false =>
  refine H.condT rfl ?_
  refine rl ?_
  refine H.any (w' := w1) gz rfl rfl (.agg sz7.toArray) (by intro cs b h; cases h) (by kernel_rfl) (by kernel_rfl) fun a H => ?_
  refine H.st O1 0 1 (L := sz7) (fun a w9 O9 H => nt (wp_ret ?_)) size_sgN
  repeat (first | (with_reducible refine block_ret ?_) | (with_reducible refine then_ret ?_))
  exact fin 1 _ _ (H.keep ⟨rfl, rfl, trivial⟩) O9 (by unfold segOut; rw [if_pos (.inr h2)])
 | true =>
 refine H.condF rfl (skip_wp (then_normal ?_))
 obtain ⟨src, rfl⟩ := Int.eq_ofNat_of_zero_le (inR_iff.1 h1).1
 obtain ⟨dst, rfl⟩ := Int.eq_ofNat_of_zero_le (inR_iff.1 h2).1
 have hs := (inR_iff.1 h1).2
 have hd := (inR_iff.1 h2).2
 have h12 : ¬ (wordB (src : Int) = false ∨ wordB (dst : Int) = false) := by rw [h1, h2]; simp
 replace H := H.kp [0, 1, 2, 6]
 refine H.rg 1 fun a H => ?_
 refine H.len gz rfl rfl rfl rfl Tryz.underlying31 fun a H => ?_
 by_cases h20 : n < 20
 ·refine H.bb 0 rfl rfl rfl rfl rfl rfl (lss_i _ _ true (by rw [decide_eq_true_iff]; omega) _ _ _) rfl fun a H => nt (H.condT rfl ?_)
  refine rl ?_
  refine H.any (w' := w1) gz rfl rfl (.agg sz7.toArray) (by intro cs b h; cases h) (by kernel_rfl) (by kernel_rfl) fun a H => ?_
  refine H.st O1 0 1 (L := sz7) (fun a w9 O9 H => nt (wp_ret ?_)) size_sgN
  repeat (first | (with_reducible refine block_ret ?_) | (with_reducible refine then_ret ?_))
  exact fin 7 _ _ (H.keep ⟨rfl, rfl, trivial⟩) O9 (by unfold segOut; rw [if_neg h12, if_pos (by omega)])
 refine H.bb 0 rfl rfl rfl rfl rfl rfl (lss_i _ _ false (by rw [decide_eq_false_iff_not]; omega) _ _ _) rfl fun a H => nt (H.condF rfl (skip_wp (then_normal ?_)))
 replace H := H.kp [0, 1, 2, 6]
 obtain ⟨b, o, _, hA, hbB, _, _⟩ := x1.get (k := 0) (by omega)
 have hrb : ∀ {bs : List (Nat × List Value)} {w'}, Own w g bs w' → RB w' w'.heap.size (some ⟨b, o, none⟩) xs := fun h => hA ▸ hx.next (bl h)
 have hix : ∀ k, k < n → ∀ w', (Instr.indexAt 31 (.slice A n c) (iz k)).run Tryz.prog w' = .ok (.pointer (some ⟨b, o + k, none⟩)) w' := fun k hk w' => by rw [hA]; exact index_1 31 Tryz.underlying31 (fun _ => by kernel_rfl) b o n c k hk w'
 have hb0 := b8_lt xs 12
 refine H.rg 1 fun a H => ?_
 refine H.index gz rfl rfl rfl rfl rfl (hix 12 (by omega) _) fun a H => ?_
 refine H.ld 0 (load1_u _ _ _ _ ((hrb O1).b8 (k := 12) (by omega))) fun a H => ?_
 refine H.bn 0 (shr4_q (b8 xs 12) hb0 _ _ _) fun a H => ?_
 refine H.cv 0 (conv_uN (b8 xs 12 / 16) (by omega) _) fun a H => ?_
 refine H.bn 1 (mul4_i (b8 xs 12 / 16) (by omega) _ _ _) fun a H => nt ?_
 rw [show 4 * (b8 xs 12 / 16) = N from hN] at H
 replace H := H.kp [0, 1, 2, 6, 8]
 refine H.rg 1 fun a H => ?_
 by_cases hN20 : N < 20
 ·refine H.bb 0 rfl rfl rfl rfl rfl rfl (lss_i _ _ true (by rw [decide_eq_true_iff]; omega) _ _ _) rfl fun a H => nt (H.condT rfl ?_)
  refine rl ?_
  refine H.any (w' := w1) gz rfl rfl (.agg sz7.toArray) (by intro cs b h; cases h) (by kernel_rfl) (by kernel_rfl) fun a H => ?_
  refine H.st O1 0 1 (L := sz7) (fun a w9 O9 H => nt (wp_ret ?_)) size_sgN
  repeat (first | (with_reducible refine block_ret ?_) | (with_reducible refine then_ret ?_))
  exact fin 1 _ _ (H.keep ⟨rfl, rfl, trivial⟩) O9 (by unfold segOut; rw [if_neg h12, if_neg (by omega), if_pos (by omega)])
 refine H.bb 0 rfl rfl rfl rfl rfl rfl (lss_i _ _ false (by rw [decide_eq_false_iff_not]; omega) _ _ _) rfl fun a H => nt (H.condF rfl (skip_wp (then_normal ?_)))
 replace H := H.kp [0, 1, 2, 6, 8]
 refine H.rg 1 fun a H => ?_
 refine H.len gz rfl rfl rfl rfl Tryz.underlying31 fun a H => ?_
 refine H.ms 1 fun a H => ?_
 by_cases hnN : n < N
 ·refine H.bb 0 rfl rfl rfl rfl rfl rfl (lss_i _ _ true (by rw [decide_eq_true_iff]; omega) _ _ _) rfl fun a H => nt (H.condT rfl ?_)
  refine rl ?_
  refine H.any (w' := w1) gz rfl rfl (.agg sz7.toArray) (by intro cs b h; cases h) (by kernel_rfl) (by kernel_rfl) fun a H => ?_
  refine H.st O1 0 1 (L := sz7) (fun a w9 O9 H => nt (wp_ret ?_)) size_sgN
  repeat (first | (with_reducible refine block_ret ?_) | (with_reducible refine then_ret ?_))
  exact fin 7 _ _ (H.keep ⟨rfl, rfl, trivial⟩) O9 (by unfold segOut; rw [if_neg h12, if_neg (by omega), if_neg (by omega), if_pos (by omega)])
 refine H.bb 0 rfl rfl rfl rfl rfl rfl (lss_i _ _ false (by rw [decide_eq_false_iff_not]; omega) _ _ _) rfl fun a H => nt (H.condF rfl (skip_wp (then_normal ?_)))
 replace H := H.kp [0, 1, 2, 6, 8]
 refine H.rg 1 fun a H => ?_
 refine H.len gz rfl rfl rfl rfl Tryz.underlying31 fun a H => ?_
 by_cases hbig : 1480 < n
 ·refine H.bb 0 rfl rfl rfl rfl rfl rfl (gtr_i _ _ true (by rw [decide_eq_true_iff]; omega) _ _ _) rfl fun a H => nt (H.condT rfl ?_)
  refine rl ?_
  refine H.any (w' := w1) gz rfl rfl (.agg sz7.toArray) (by intro cs b h; cases h) (by kernel_rfl) (by kernel_rfl) fun a H => ?_
  refine H.st O1 0 1 (L := sz7) (fun a w9 O9 H => nt (wp_ret ?_)) size_sgN
  repeat (first | (with_reducible refine block_ret ?_) | (with_reducible refine then_ret ?_))
  exact fin 2 _ _ (H.keep ⟨rfl, rfl, trivial⟩) O9 (by unfold segOut; rw [if_neg h12, if_neg (by omega), if_neg (by omega), if_neg (by omega), if_pos (by omega)])
 refine H.bb 0 rfl rfl rfl rfl rfl rfl (gtr_i _ _ false (by rw [decide_eq_false_iff_not]; omega) _ _ _) rfl fun a H => nt (H.condF rfl (skip_wp (then_normal ?_)))
 replace H := H.kp [0, 1, 2, 6, 8]
 obtain ⟨S, hS⟩ : ∃ S, segSum src dst xs = S := ⟨_, rfl⟩
 refine H.rg 3 fun a H => ?_
 refine H.len gz rfl rfl rfl rfl Tryz.underlying31 fun a H => ?_
 have KH : Calls Tryz.prog 92 #[iz src, iz dst, iz n] w1 fun e w' => ∃ v, e = .returned v ∧ ∃ A' c', v = .slice A' 12 c' ∧ w'.ownsRow w1.heap.size 5 1 (.slice A' 12 c') 12 ((segHd src dst n).map bv) ∧ Below w1.heap.size w1 w' := (refHead src dst n (by omega) (by omega) (by omega) w1).mono fun _ _ ⟨A', c', h1, h2, h3⟩ => ⟨_, h1, A', c', rfl, h2, h3⟩
 refine H.cl KH ?_
 rintro a _ w2 ⟨A2, c2, rfl, hO2, hb2⟩ H
 have O2 := O1.call hb2
 have ha1 := Sm.add_le 0 (segHd src dst n)
 have ha2 := Sm.add_le (Sm.add 0 (segHd src dst n)) xs
 have hsum := segSum_add src dst xs
 rw [hl, hS] at hsum
 refine H.cq 1 (refAddN 0 0 rfl (by decide) (segHd src dst n) 12 (segHd_length ..) A2 c2 w2 (RB.of_ownN hO2) (by decide)) fun a H => ?_
 refine H.cq 0 (refAddN (Sm.add 0 (segHd src dst n)) _ rfl (by omega) xs n hl A c w2 (hx.next (bl O2)) (by omega)) fun a H => ?_
 have hrest : segOut src dst xs = if S ≠ 0 then (.zero, 8) else (sgParsed xs, 0) := by unfold segOut; rw [if_neg h12, if_neg (by omega), if_neg (by omega), if_neg (by omega), if_neg (by omega), Int.toNat_natCast, Int.toNat_natCast, hS]
 obtain ⟨zs, hzs⟩ : ∃ z, (((Sm.add (Sm.add 0 (segHd src dst n)) xs : Nat) : Int) != 65535) = z := ⟨_, rfl⟩
 refine H.bn 0 (neq_3 _ _ zs hzs _ _ _) fun a H => nt ?_
 cases zs with
 | true =>
  refine H.condT rfl ?_
  have hz : ¬ ((Sm.add (Sm.add 0 (segHd src dst n)) xs : Nat) : Int) = 65535 := by simpa using hzs
  have h8 : S ≠ 0 := by omega
  refine rl ?_
  refine H.any (w' := w2) gz rfl rfl (.agg sz7.toArray) (by intro cs b h; cases h) (by kernel_rfl) (by kernel_rfl) fun a H => ?_
  refine H.st O2 0 1 (L := sz7) (fun a w9 O9 H => nt (wp_ret ?_)) size_sgN
  repeat (first | (with_reducible refine block_ret ?_) | (with_reducible refine then_ret ?_))
  exact fin 8 _ _ (H.keep ⟨rfl, rfl, trivial⟩) O9 (by rw [hrest, if_pos h8])
 | false =>
 have hz : ((Sm.add (Sm.add 0 (segHd src dst n)) xs : Nat) : Int) = 65535 := by simpa using hzs
 have h8 : S = 0 := by omega
 rw [if_neg (by omega)] at hrest
 refine H.condF rfl (skip_wp (then_normal ?_))
 replace H := H.kp [2, 6, 8]
 have hcl : (xs.drop N).length = n - N := by rw [List.length_drop]; omega
 refine H.sg (fun w' => Own w g [(g, sz7)] w') O2.drew [2, 6, 8] [ec 0 50 (.slice A n c), ec 1 51 (.slice A 2 c), ec 2 52 (iz (num2 xs 0 2)), ec 3 53 (.slice A n c), ec 4 54 (.slice (if c = 2 then A else A.map (·.add 2)) 2 (c - 2)), ec 5 55 (iz (num2 xs 2 2)), ec 6 56 (.slice A n c), ec 7 57 (.slice (if c = 4 then A else A.map (·.add 4)) 4 (c - 4)), ec 8 58 (iz (num2 xs 4 4)), ec 9 59 (.slice A n c), ec 10 60 (.slice (if c = 8 then A else A.map (·.add 8)) 4 (c - 8)), ec 11 61 (iz (num2 xs 8 4)), ec 12 62 (.slice A n c), ec 13 63 (.pointer (some ⟨b, o + 13, none⟩)), ec 14 64 (.int .u8 ((b8 xs 13 : Nat) : Int)), ec 15 65 (.int .u8 ((b8 xs 13 % 64 : Nat) : Int)), ec 16 66 (iz ((b8 xs 13 % 64 : Nat) : Int)), ec 17 67 (.slice A n c), ec 18 68 (.slice (if c = 14 then A else A.map (·.add 14)) 2 (c - 14)), ec 19 69 (iz (num2 xs 14 2)), ec 20 70 (.slice A n c), ec 21 71 (iz N), ec 22 72 (.slice (if c = N then A else A.map (·.add N)) (n - N) (c - N)), ec 26 7 (iz 0)] rfl ?_
 refine St.call 23 ⟨jm, jh fun _ => slice_h A n c 2 (by omega) hnc _, jq fun w' h => ofW (xs.take 2) 2 (by rw [List.length_take]; omega) A c w' ((hx.next (bl h)).take 2) (by decide), jm, js2 fun _ => slice_lh A n c 2 4 (by omega) (by omega) hnc _, jq fun w' h => ofN xs n hl A c hnc w' (hx.next (bl h)) 2 2 (by omega) (by decide) _ rfl, jm, js2 fun _ => slice_lh A n c 4 8 (by omega) (by omega) hnc _, jq fun w' h => ofN xs n hl A c hnc w' (hx.next (bl h)) 4 4 (by omega) (by decide) _ rfl, jm, js2 fun _ => slice_lh A n c 8 12 (by omega) (by omega) hnc _, jq fun w' h => ofN xs n hl A c hnc w' (hx.next (bl h)) 8 4 (by omega) (by decide) _ rfl, jm, jI rfl rfl rfl rfl rfl rfl (hix 13 (by omega)), jl fun _ h => load1_u _ _ _ _ ((hrb h).b8 (k := 13) (by omega)), jb fun _ => and63_u (b8 xs 13) (b8_lt xs 13) _ _ _, jc fun _ => conv_uN (b8 xs 13 % 64) (by have := b8_lt xs 13; omega) _, jm, js2 fun _ => slice_lh A n c 14 16 (by omega) (by omega) hnc _, jq fun w' h => ofN xs n hl A c hnc w' (hx.next (bl h)) 14 2 (by omega) (by decide) _ rfl, jm, jm, js1 fun _ => slice_lo A n c N (by omega) hnc _, jm, trivial⟩ (fun wy h => copyE (xs.drop N) (n - N) hcl _ (c - N) wy ((hx.next (bl h)).cut (k := N) (cap := c) (by omega) (by omega)) (by omega)) ?_
 rintro wy _ wz hh ⟨A1, c1, rfl, hO, hb⟩
 have hgy : g < wy.heap.size := hh.lt 0 rfl
 have Oz := hh.call hb
 clear hb
 generalize wy.heap.size = bb at hO hgy
 refine nx (fun w' => Own w g [(g, sz7)] w' ∧ w'.ownsRow bb 5 1 (.slice A1 (n - N) c1) (n - N) ((xs.drop N).map bv)) [ec 24 74 (.agg ([iz (num2 xs 0 2), iz (num2 xs 2 2), iz (num2 xs 4 4), iz (num2 xs 8 4), iz ((b8 xs 13 % 64 : Nat) : Int), iz (num2 xs 14 2), .slice A1 (n - N) c1] : List Value).toArray)] [] ⟨Oz, hO⟩ ?_
 refine St.sto 25 ⟨ja (fun _ => by kernel_rfl), jm, jI rfl rfl rfl rfl rfl rfl (hix 13 (by omega)), jl fun _ h => load1_u _ _ _ _ ((hrb h.1).b8 (k := 13) (by omega)), jb fun _ => and63_u (b8 xs 13) (b8_lt xs 13) _ _ _, jc fun _ => conv_uN (b8 xs 13 % 64) (by have := b8_lt xs 13; omega) _, jm, trivial⟩ ?_
 rintro a wu H _ ⟨Ou, hOu⟩
 obtain ⟨w', hr, hg3, hs3, hC3⟩ := (Ou.get 0 rfl).sto (L := [iz (num2 xs 0 2), iz (num2 xs 2 2), iz (num2 xs 4 4), iz (num2 xs 8 4), iz ((b8 xs 13 % 64 : Nat) : Int), iz (num2 xs 14 2), .slice A1 (n - N) c1]) size_sgN rfl rfl rfl
 refine ⟨w', run_store rfl (H.ev rfl) (H.ev rfl) hr, nx0 (fun w' => Own w g [(g, [iz (num2 xs 0 2), iz (num2 xs 2 2), iz (num2 xs 4 4), iz (num2 xs 8 4), iz ((b8 xs 13 % 64 : Nat) : Int), iz (num2 xs 14 2), .slice A1 (n - N) c1])] w' ∧ w'.ownsRow bb 5 1 (.slice A1 (n - N) c1) (n - N) ((xs.drop N).map bv)) [] [] ⟨Ou.store 0 rfl hg3 hs3 hC3, hOu.kept hg3 (.inr (own_ne hOu (.inl hgy)).symm)⟩ (St.fin ⟨jm, trivial⟩ ?_ (hF := .inl rfl))⟩
 rintro a w3 H _ ⟨O3, hO3⟩
 refine then_normal (wp_ret ?_)
 repeat (first | (with_reducible refine block_ret ?_) | (with_reducible refine then_ret ?_))
 refine bodyPost_ret (results_two Tryz.results97 _ _ _ (H.at_ 6 _ rfl) (H.at_ 7 _ rfl) (O3.get 0 rfl) Tryz.underlying36 rfl _ size_sgN rfl) H.df ?_
 rw [hrest]
 unfold sgParsed
 rw [hN]
 refine ⟨A1, c1, ?_, ?_, bl O3⟩
 ·simp only [hcl]
 ·simp only [hcl]; exact own_base hO3 (by omega)
end
section
open Go.RowKit
def SegRes (w : World) (r : Sg × Bool) (v : Value) (w' : World) : Prop :=
 ∃ A c, v = .tuple #[.agg #[iz r.1.sp, iz r.1.dp, iz r.1.sq, iz r.1.ak, iz r.1.fl, iz r.1.wn, .slice A r.1.xs.length c], .bool r.2] ∧ w'.ownsRow w.heap.size 5 1 (.slice A r.1.xs.length c) r.1.xs.length (r.1.xs.map bv) ∧ Below w.heap.size w w'
theorem size_sg : (Tryz.prog.info? 36).map (·.size) = some 7 := by kernel_rfl
theorem zero_sg (w : World) : (zeroValue 36).run Tryz.prog w = .ok (.agg ([iz 0, iz 0, iz 0, iz 0, iz 0, iz 0, nilV] : List Value).toArray) w := by kernel_rfl
theorem size_pk : (Tryz.prog.info? 89).map (·.size) = some 6 := by kernel_rfl
theorem zero_pk (w : World) : (zeroValue 89).run Tryz.prog w = .ok (.agg ([iz 0, iz 0, iz 0, iz 0, iz 0, nilV] : List Value).toArray) w := by kernel_rfl
theorem parsePkC (xs : List UInt8) (n : Nat) (hl : xs.length = n) (A : Option Addr) (c : Nat) (hnc : n ≤ c) (w : World) (hx : RB w w.heap.size A xs) (hn : n ≤ 140737488351232) (ps pd pp pt pi er : Int) (zs : List UInt8) (hp : parseOut xs = (⟨ps, pd, pp, pt, pi, zs⟩, er)) :
  Calls Tryz.prog 96 #[.slice A n c] w fun e w' => ∃ v, e = .returned v ∧ (∃ A2 c2, v = .tuple #[.agg ([iz ps, iz pd, iz pp, iz pt, iz pi, .slice A2 zs.length c2] : List Value).toArray, iz er] ∧ w'.ownsRow w.heap.size 5 1 (.slice A2 zs.length c2) zs.length (zs.map bv) ∧ Below w.heap.size w w') := by
 have h := refParsePkN xs n hl A c hnc w hx hn
 rw [hp] at h
 exact h.mono fun _ _ ⟨A', c', h1, h2⟩ => ⟨_, h1, A', c', rfl, h2⟩
theorem parseSgC (src dst : Int) (xs : List UInt8) (n : Nat) (hl : xs.length = n) (A : Option Addr) (c : Nat) (hnc : n ≤ c) (w : World) (hx : RB w w.heap.size A xs) (hn : n ≤ 140737488351232) (q : Sg) (er : Int) (hp : segOut src dst xs = (q, er)) :
  Calls Tryz.prog 97 #[iz src, iz dst, .slice A n c] w fun e w' => ∃ v, e = .returned v ∧ (∃ A3 c3, v = .tuple #[.agg ([iz q.sp, iz q.dp, iz q.sq, iz q.ak, iz q.fl, iz q.wn, .slice A3 q.xs.length c3] : List Value).toArray, iz er] ∧ w'.ownsRow w.heap.size 5 1 (.slice A3 q.xs.length c3) q.xs.length (q.xs.map bv) ∧ Below w.heap.size w w') := by
 have h := refParseSegN src dst xs n hl A c hnc w hx hn
 rw [hp] at h
 exact h.mono fun _ _ ⟨A', c', h1, h2⟩ => ⟨_, h1, A', c', rfl, h2⟩
theorem parseOut_len (xs : List UInt8) : (parseOut xs).1.xs.length ≤ xs.length := by
 unfold parseOut
 repeat' split
 all_goals simp [Pk.zero, parsed]
 all_goals omega
theorem pageSeg (xs : List UInt8) (n : Nat) (hn : xs.length = n) (A : Option Addr) (c : Nat) (hnc : n ≤ c) (src sport dst dport : Int) (w : World) (hx : RB w w.heap.size A xs) (hl : n ≤ 140737488351232) :
  Calls Tryz.prog 57 #[.slice A n c, iz src, iz sport, iz dst, iz dport] w fun e w' => ∃ v, e = .returned v ∧ SegRes w (segTo xs src sport dst dport) v w' := by
 rcases hf : frOut xs with ⟨⟨fd, fs, ft, ys⟩, e1⟩
 have hyl : ys.length ≤ n := by have := frOut_len xs; rw [hf] at this; rw [← hn]; exact this
 rcases hp : parseOut ys with ⟨⟨ps, pd, pp, pt, pi, zs⟩, e2⟩
 have hzl : zs.length ≤ n := by have := parseOut_len ys; rw [hp] at this; exact Nat.le_trans this hyl
 rcases hs : segOut src dst zs with ⟨q, e3⟩
 have hst : segTo xs src sport dst dport = if ((e1 != 0) || ((ft : Int) != 2048)) = true then (Sg.zero, false) else if ((((e2 != 0) || (ps != src)) || (pd != dst)) || (pp != 6)) = true then (Sg.zero, false) else (q, ((e3 == 0) && (q.sp == sport)) && (q.dp == dport)) := by
  unfold segTo
  rw [hf]
  simp only [hp, hs]
  have h1 : (e1 ≠ 0 ∨ ft ≠ 2048) ↔ ((e1 != 0) || ((ft : Int) != 2048)) = true := by
   simp only [Bool.or_eq_true, bne_iff_ne, ne_eq]
   omega
  have h2 : (e2 ≠ 0 ∨ ps ≠ src ∨ pd ≠ dst ∨ pp ≠ 6) ↔ ((((e2 != 0) || (ps != src)) || (pd != dst)) || (pp != 6)) = true := by
   simp only [Bool.or_eq_true, bne_iff_ne, ne_eq, or_assoc]
  simp only [h1, h2, Bool.and_assoc]
 rw [hst]
 clear hst
 go_enter Tryz.func57, Tryz.ntmps57
 refine Has.start 78 [(0, .slice A n c), (1, iz src), (2, iz sport), (3, iz dst), (4, iz dport)] rfl rfl ⟨rfl, rfl, rfl, rfl, rfl, trivial⟩ ?_
 intro a0 H0
 have O0 := Own.start w
 refine rl ?_
 refine H0.al O0 1 zero_sg fun a1 w1 O1 H1 => nt ?_
 generalize hg : w.heap.size = g at O1 H1
 have bl : ∀ {w' : World} {bs : List (Nat × List Value)}, Own w g bs w' → Below w.heap.size w w' := fun h => hg ▸ h.bel
 refine H1.rg 1 fun a2 H2 => ?_
 refine H2.cl (parseFrame xs n hn A c hnc w1 (hx.next (bl O1)) hl) ?_
 rintro a3 _ w2 ⟨A1, c1, hv, hO2, hb2⟩ H3
 rw [hf] at hv hO2
 subst hv
 have hr2 := rb_of_own rfl hO2 hb2.size
 have hc2 := own_cap hO2
 have O2 := O1.call hb2
 clear hO2 hb2
 refine H3.ms 1 fun a4 H4 => ?_
 refine H4.ex (r := .agg ([iz fd, iz fs, iz ft, .slice A1 ys.length c1] : List Value).toArray) 0 fun a5 H5 => ?_
 refine H5.ex (r := iz e1) 0 fun a6 H6 => ?_
 refine H6.nk O2 1 (L := [iz fd, iz fs, iz ft, .slice A1 ys.length c1]) rfl zero_frm size_frm fun a7 w3 hb3 O3 _ H7 => nt ?_
 have hr3 := hr2.next hb3
 generalize w2.heap.size = g2 at O3 H7
 replace H7 := H7.kp [1, 2, 3, 4, 10, 12, 13]
 clear H1 H2 H3 H4 H5 H6 O2 hb3 hr2
 obtain ⟨x1, hx1⟩ : ∃ b, (e1 != 0) = b := ⟨_, rfl⟩
 obtain ⟨x2, hx2⟩ : ∃ b, ((ft : Int) != 2048) = b := ⟨_, rfl⟩
 rw [hx1, hx2]
 refine H7.tb (fun w' => Own w g [(g2, [iz fd, iz fs, iz ft, .slice A1 ys.length c1]), (g, [iz 0, iz 0, iz 0, iz 0, iz 0, iz 0, nilV])] w' ∧ RB w' w'.heap.size A1 ys) (fun _ _ h hb => ⟨h.1.call hb, h.2.next hb⟩) ⟨O3, hr3⟩
  [ec 0 21 (iz e1), ec 1 22 (.bool x1), ec 2 23 (.bool x1), ec 3 24 (gv (!x1) (.pointer (some ⟨g2, 2, none⟩))), ec 4 25 (gv (!x1) (iz ft)), ec 5 26 (gv (!x1) (.bool x2)), ec 6 27 (.bool (x1 || x2))] rfl
  ⟨jm, jb fun _ => neq_3 _ _ x1 hx1 _ _ _, jm, (by cases x1; exact jm; exact jo), (by cases x1; exact jl fun _ h => h.1.li 0 2; exact jo), (by cases x1; exact jb fun _ => neq_3 _ _ x2 hx2 _ _ _; exact jo), (by cases x1 <;> exact jp), trivial⟩ ?_
 clear H7 O3 hr3
 rintro a8 w4 H8 ⟨O4, hr4⟩
 refine then_normal (H8.cond (t := x1 || x2) rfl ?_)
 replace H8 := H8.kp [1, 2, 3, 4, 10, 12]
 cases hxx : x1 || x2 with
 | true =>
  refine rl ?_
  refine H8.any (w' := w4) gz rfl rfl (.agg ([iz 0, iz 0, iz 0, iz 0, iz 0, iz 0, nilV] : List Value).toArray) (by intro cs b h; cases h) (by kernel_rfl) (by kernel_rfl) fun a9 H9 => ?_
  refine H9.st O4 1 1 (L := [iz 0, iz 0, iz 0, iz 0, iz 0, iz 0, nilV]) (fun a10 w5 O5 H10 => nt (wp_ret ?_)) size_sg
  repeat (first | (with_reducible refine block_ret ?_) | (with_reducible refine then_ret ?_))
  refine bodyPost_ret (results_two Tryz.results57 _ _ _ (H10.at_ 10 _ rfl) (H10.at_ 11 _ rfl) (O5.get 1 rfl) Tryz.underlying36 rfl _ size_sg rfl) H10.df ⟨_, rfl, ?_⟩
  rw [if_pos rfl]
  exact ⟨none, 0, rfl, World.ownsRow_nil _ _ _ _, bl O5⟩
 | false =>
 rw [if_neg (by decide)]
 refine skip_wp (then_normal ?_)
 refine rl ?_
 refine H8.ms 1 fun a H => ?_
 refine H.ld 0 (load1_31 _ _ _ _ _ _ ((O4.get 0 rfl).get 3 _ rfl)) fun a H => ?_
 refine H.cl (parsePkC ys ys.length rfl A1 c1 hc2 w4 hr4 (by omega) ps pd pp pt pi e2 zs hp) ?_
 rintro a9 _ w5 ⟨A2, c2, rfl, hO5, hb5⟩ H9
 have hr5 := rb_of_own rfl hO5 hb5.size
 have hc5 := own_cap hO5
 have O5 := O4.call hb5
 clear hO5 hb5 hr4
 refine H9.ms 1 fun a10 H10 => ?_
 refine H10.ex (r := .agg ([iz ps, iz pd, iz pp, iz pt, iz pi, .slice A2 zs.length c2] : List Value).toArray) 0 fun a11 H11 => ?_
 refine H11.ex (r := iz e2) 0 fun a12 H12 => ?_
 refine H12.nk O5 1 (L := [iz ps, iz pd, iz pp, iz pt, iz pi, .slice A2 zs.length c2]) rfl zero_pk size_pk fun a13 w6 hb6 O6 _ H13 => nt ?_
 have hr6 := hr5.next hb6
 generalize w5.heap.size = g5 at O6 H13
 replace H13 := H13.kp [1, 2, 3, 4, 10, 13, 14]
 clear H8 H9 H10 H11 H12 H O5 hb6 hr5
 obtain ⟨y1, hy1⟩ : ∃ b, (e2 != 0) = b := ⟨_, rfl⟩
 obtain ⟨y2, hy2⟩ : ∃ b, (ps != src) = b := ⟨_, rfl⟩
 obtain ⟨y3, hy3⟩ : ∃ b, (pd != dst) = b := ⟨_, rfl⟩
 obtain ⟨y4, hy4⟩ : ∃ b, (pp != 6) = b := ⟨_, rfl⟩
 rw [hy1, hy2, hy3, hy4]
 refine H13.tb (fun w' => Own w g [(g5, [iz ps, iz pd, iz pp, iz pt, iz pi, .slice A2 zs.length c2]), (g2, [iz fd, iz fs, iz ft, .slice A1 ys.length c1]), (g, [iz 0, iz 0, iz 0, iz 0, iz 0, iz 0, nilV])] w' ∧ RB w' w'.heap.size A2 zs) (fun _ _ h hb => ⟨h.1.call hb, h.2.next hb⟩) ⟨O6, hr6⟩
  [ec 0 35 (iz e2), ec 1 36 (.bool y1), ec 2 37 (.bool y1), ec 3 38 (gv (!y1) (pz g5)), ec 4 39 (gv (!y1) (iz ps)), ec 5 40 (gv (!y1) (iz src)), ec 6 41 (gv (!y1) (.bool y2)), ec 7 42 (.bool (y1 || y2)), ec 8 43 (.bool (y1 || y2)),
   ec 9 44 (gv (!(y1 || y2)) (.pointer (some ⟨g5, 1, none⟩))), ec 10 45 (gv (!(y1 || y2)) (iz pd)), ec 11 46 (gv (!(y1 || y2)) (iz dst)), ec 12 47 (gv (!(y1 || y2)) (.bool y3)), ec 13 48 (.bool ((y1 || y2) || y3)), ec 14 49 (.bool ((y1 || y2) || y3)),
   ec 15 50 (gv (!((y1 || y2) || y3)) (.pointer (some ⟨g5, 2, none⟩))), ec 16 51 (gv (!((y1 || y2) || y3)) (iz pp)), ec 17 52 (gv (!((y1 || y2) || y3)) (.bool y4)), ec 18 53 (.bool (((y1 || y2) || y3) || y4))] rfl
  ⟨jm, jb fun _ => neq_3 _ _ y1 hy1 _ _ _, jm, (by cases y1; exact jm; exact jo), (by cases y1; exact jl fun _ h => h.1.li 0 0; exact jo), (by cases y1; exact jm; exact jo), (by cases y1; exact jb fun _ => neq_3 _ _ y2 hy2 _ _ _; exact jo), (by cases y1 <;> exact jp), jm,
   (by cases y1 <;> cases y2 <;> first | exact jo | exact jm), (by cases y1 <;> cases y2 <;> first | exact jo | exact jl fun _ h => h.1.li 0 1), (by cases y1 <;> cases y2 <;> first | exact jo | exact jm), (by cases y1 <;> cases y2 <;> first | exact jo | exact jb fun _ => neq_3 _ _ y3 hy3 _ _ _), (by cases y1 <;> cases y2 <;> exact jp), jm,
   (by cases y1 <;> cases y2 <;> cases y3 <;> first | exact jo | exact jm), (by cases y1 <;> cases y2 <;> cases y3 <;> first | exact jo | exact jl fun _ h => h.1.li 0 2), (by cases y1 <;> cases y2 <;> cases y3 <;> first | exact jo | exact jb fun _ => neq_3 _ _ y4 hy4 _ _ _), (by cases y1 <;> cases y2 <;> cases y3 <;> exact jp), trivial⟩ ?_
 clear H13 O6 hr6
 rintro a14 w7 H14 ⟨O7, hr7⟩
 refine then_normal (H14.cond (t := ((y1 || y2) || y3) || y4) rfl ?_)
 replace H14 := H14.kp [1, 2, 3, 4, 10, 14]
 cases hyy : ((y1 || y2) || y3) || y4 with
 | true =>
  refine rl ?_
  refine H14.any (w' := w7) gz rfl rfl (.agg ([iz 0, iz 0, iz 0, iz 0, iz 0, iz 0, nilV] : List Value).toArray) (by intro cs b h; cases h) (by kernel_rfl) (by kernel_rfl) fun a15 H15 => ?_
  refine H15.st O7 2 1 (L := [iz 0, iz 0, iz 0, iz 0, iz 0, iz 0, nilV]) (fun a16 w8 O8 H16 => nt (wp_ret ?_)) size_sg
  repeat (first | (with_reducible refine block_ret ?_) | (with_reducible refine then_ret ?_))
  refine bodyPost_ret (results_two Tryz.results57 _ _ _ (H16.at_ 10 _ rfl) (H16.at_ 11 _ rfl) (O8.get 2 rfl) Tryz.underlying36 rfl _ size_sg rfl) H16.df ⟨_, rfl, ?_⟩
  rw [if_pos rfl]
  exact ⟨none, 0, rfl, World.ownsRow_nil _ _ _ _, bl O8⟩
 | false =>
 rw [if_neg (by decide)]
 refine skip_wp (then_normal ?_)
 refine H14.rg 3 fun a H => ?_
 refine H.ld 0 (load1_31 _ _ _ _ _ _ ((O7.get 0 rfl).get 5 _ rfl)) fun a H => ?_
 refine H.cl (parseSgC src dst zs zs.length rfl A2 c2 hc5 w7 hr7 (by omega) q e3 hs) ?_
 rintro a15 _ w8 ⟨A3, c3, rfl, hO8, hb8⟩ H15
 have O8 := O7.call hb8
 have hs7 : g < w7.heap.size := O7.lt 2 rfl
 clear hr7
 refine H15.ms 1 fun a16 H16 => ?_
 refine H16.ex (r := .agg ([iz q.sp, iz q.dp, iz q.sq, iz q.ak, iz q.fl, iz q.wn, .slice A3 q.xs.length c3] : List Value).toArray) 0 fun a17 H17 => ?_
 refine H17.ex (r := iz e3) 0 fun a18 H18 => ?_
 refine H18.nk O8 1 (L := [iz q.sp, iz q.dp, iz q.sq, iz q.ak, iz q.fl, iz q.wn, .slice A3 q.xs.length c3]) rfl zero_sg size_sg fun a19 w9 hb9 O9 _ H19 => nt ?_
 have hO9 := own_below hO8 hb9
 generalize w8.heap.size = g8 at O9 H19
 replace H19 := H19.kp [2, 4, 10, 13, 15]
 clear H14 H15 H16 H17 H18 H O8 hb9 hO8
 obtain ⟨z1, hz1⟩ : ∃ b, (e3 == 0) = b := ⟨_, rfl⟩
 obtain ⟨z2, hz2⟩ : ∃ b, (q.sp == sport) = b := ⟨_, rfl⟩
 obtain ⟨z3, hz3⟩ : ∃ b, (q.dp == dport) = b := ⟨_, rfl⟩
 rw [hz1, hz2, hz3]
 generalize w7.heap.size = bb at hO9 hs7
 refine H19.sg (fun w' => Own w g [(g8, [iz q.sp, iz q.dp, iz q.sq, iz q.ak, iz q.fl, iz q.wn, .slice A3 q.xs.length c3]), (g5, [iz ps, iz pd, iz pp, iz pt, iz pi, .slice A2 zs.length c2]), (g2, [iz fd, iz fs, iz ft, .slice A1 ys.length c1]), (g, [iz 0, iz 0, iz 0, iz 0, iz 0, iz 0, nilV])] w' ∧ w'.ownsRow bb 5 1 (.slice A3 q.xs.length c3) q.xs.length (q.xs.map bv)) ⟨O9.drew, hO9⟩ [2, 4, 10, 13, 15]
  [ec 0 63 (.agg ([iz q.sp, iz q.dp, iz q.sq, iz q.ak, iz q.fl, iz q.wn, .slice A3 q.xs.length c3] : List Value).toArray), ec 1 64 (iz e3), ec 2 65 (.bool z1), ec 3 66 (.bool z1), ec 4 67 (gv z1 (pz g8)), ec 5 68 (gv z1 (iz q.sp)), ec 6 69 (gv z1 (iz sport)), ec 7 70 (gv z1 (.bool z2)), ec 8 71 (.bool (z1 && z2)), ec 9 72 (.bool (z1 && z2)),
   ec 10 73 (gv (z1 && z2) (.pointer (some ⟨g8, 1, none⟩))), ec 11 74 (gv (z1 && z2) (iz q.dp)), ec 12 75 (gv (z1 && z2) (iz dport)), ec 13 76 (gv (z1 && z2) (.bool z3)), ec 14 77 (.bool ((z1 && z2) && z3)), ec 16 11 (.bool ((z1 && z2) && z3))] rfl ?_
 refine St.sto 15 ⟨jl fun _ h => loadT (h.1.get 0 rfl) Tryz.underlying36 rfl size_sg rfl, jm, jb fun _ => eql_iB _ _ z1 hz1 _ _ _, jm, (by cases z1; exact jo; exact jm), (by cases z1; exact jo; exact jl fun _ h => h.1.li 0 0), (by cases z1; exact jo; exact jm), (by cases z1; exact jo; exact jb fun _ => eql_iB _ _ z2 hz2 _ _ _), (by cases z1 <;> exact jp), jm,
   (by cases z1 <;> cases z2 <;> first | exact jo | exact jm), (by cases z1 <;> cases z2 <;> first | exact jo | exact jl fun _ h => h.1.li 0 1), (by cases z1 <;> cases z2 <;> first | exact jo | exact jm), (by cases z1 <;> cases z2 <;> first | exact jo | exact jb fun _ => eql_iB _ _ z3 hz3 _ _ _), (by cases z1 <;> cases z2 <;> exact jp), jm, trivial⟩ ?_
 rintro a20 wu H20 _ ⟨Ou, hOu⟩
 obtain ⟨w', hr, hg2, hs2, hC2⟩ := (Ou.get 3 rfl).sto (L := [iz q.sp, iz q.dp, iz q.sq, iz q.ak, iz q.fl, iz q.wn, .slice A3 q.xs.length c3]) size_sg rfl rfl rfl
 refine ⟨w', run_store rfl (H20.ev rfl) (H20.ev rfl) hr, nx0 (fun w' => Own w g [(g8, [iz q.sp, iz q.dp, iz q.sq, iz q.ak, iz q.fl, iz q.wn, .slice A3 q.xs.length c3]), (g5, [iz ps, iz pd, iz pp, iz pt, iz pi, .slice A2 zs.length c2]), (g2, [iz fd, iz fs, iz ft, .slice A1 ys.length c1]), (g, [iz q.sp, iz q.dp, iz q.sq, iz q.ak, iz q.fl, iz q.wn, .slice A3 q.xs.length c3])] w' ∧ w'.ownsRow bb 5 1 (.slice A3 q.xs.length c3) q.xs.length (q.xs.map bv)) [] [] ⟨Ou.store 3 rfl hg2 hs2 hC2, hOu.kept hg2 (.inr (own_ne hOu (.inl hs7)).symm)⟩ ?_⟩
 refine St.fin ⟨(by cases z1 <;> cases z2 <;> first | exact jo | exact jm), (by cases z1 <;> cases z2 <;> first | exact jo | exact jl fun _ h => h.1.li 0 1), (by cases z1 <;> cases z2 <;> first | exact jo | exact jm), (by cases z1 <;> cases z2 <;> first | exact jo | exact jb fun _ => eql_iB _ _ z3 hz3 _ _ _), (by cases z1 <;> cases z2 <;> exact jp), jm, trivial⟩ ?_ (hF := .inl rfl)
 rintro a21 w11 H21 _ ⟨O11, hO11⟩
 refine then_normal (wp_ret ?_)
 repeat (first | (with_reducible refine block_ret ?_) | (with_reducible refine then_ret ?_))
 refine bodyPost_ret (results_two Tryz.results57 _ _ _ (H21.at_ 10 _ rfl) (H21.at_ 11 _ rfl) (O11.get 3 rfl) Tryz.underlying36 rfl _ size_sg rfl) H21.df ⟨_, rfl, A3, c3, rfl, own_base hO11 (by omega), bl O11⟩
end
section
open Go.RowKit
theorem num28 (u : Int) (w : World) : Calls Tryz.prog 9 #[.int .i64 u] w fun e w' => e = .returned (.int .i64 u) ∧ w = w' := by
 go_enter Tryz.func9, Tryz.ntmps9
 go_wp2
 go_ret
 exact ⟨rfl, rfl⟩
theorem may28 (ip mac port iss sq : Int) (vL : Value) (b1 b2 b3 b4 : Bool) (h1 : inR ip 4294967295 = b1) (h2 : inR mac 281474976710655 = b2) (h3 : inR port 65535 = b3) (h4 : inR iss 4294967295 = b4) (w : World) :
  Calls Tryz.prog 7 #[.agg #[.int .i64 ip, .int .i64 mac, .int .i64 port, .int .i64 iss, vL, .int .i64 sq]] w fun e w' => e = .returned (.bool (b1 && b2 && b3 && b4)) ∧ Below w.heap.size w w' := by
 go_enter Tryz.func7, Tryz.ntmps7
 refine Has.start 21 [(0, .agg #[.int .i64 ip, .int .i64 mac, .int .i64 port, .int .i64 iss, vL, .int .i64 sq])] rfl rfl ⟨rfl, trivial⟩ ?_
 intro a0 H0
 have O0 := Own.start w
 refine rl ?_
 refine H0.bx O0 1 (L := [.int .i64 ip, .int .i64 mac, .int .i64 port, .int .i64 iss, vL, .int .i64 sq]) fun a1 w1 O1 H1 => nt ?_
 generalize hg : w.heap.size = g at O1 H1
 refine H1.tb (Own w g [(g, [.int .i64 ip, .int .i64 mac, .int .i64 port, .int .i64 iss, vL, .int .i64 sq])]) (fun _ _ h hb => h.call hb) O1
  [ec 0 3 (.pointer (some ⟨g, 0, none⟩)), ec 1 4 (.int .i64 ip), ec 2 5 (.bool b1), ec 3 6 (.bool b1), ec 4 7 (gv b1 (.pointer (some ⟨g, 1, none⟩))), ec 5 8 (gv b1 (.int .i64 mac)), ec 6 9 (gv b1 (.bool b2)), ec 7 10 (.bool (b1 && b2)), ec 8 11 (.bool (b1 && b2)),
   ec 9 12 (gv (b1 && b2) (.pointer (some ⟨g, 2, none⟩))), ec 10 13 (gv (b1 && b2) (.int .i64 port)), ec 11 14 (gv (b1 && b2) (.bool b3)), ec 12 15 (.bool (b1 && b2 && b3)), ec 13 16 (.bool (b1 && b2 && b3)),
   ec 14 17 (gv (b1 && b2 && b3) (.pointer (some ⟨g, 3, none⟩))), ec 15 18 (gv (b1 && b2 && b3) (.int .i64 iss)), ec 16 19 (gv (b1 && b2 && b3) (.bool b4)), ec 17 20 (.bool (b1 && b2 && b3 && b4)), ec 18 2 (.bool (b1 && b2 && b3 && b4))] rfl
  ⟨jm, jl fun _ h => h.li 0 0, jq fun w' _ => h1 ▸ refWord ip w', jm, (by cases b1; exact jo; exact jm), (by cases b1; exact jo; exact jl fun _ h => h.li 0 1), (by cases b1; exact jo; exact jq fun w' _ => h2 ▸ macOk mac w'), (by cases b1 <;> exact jp), jm,
   (by cases b1 <;> cases b2 <;> first | exact jo | exact jm), (by cases b1 <;> cases b2 <;> first | exact jo | exact jl fun _ h => h.li 0 2), (by cases b1 <;> cases b2 <;> first | exact jo | exact jq fun w' _ => h3 ▸ refNum port 65535 w'), (by cases b1 <;> cases b2 <;> exact jp), jm,
   (by cases b1 <;> cases b2 <;> cases b3 <;> first | exact jo | exact jm), (by cases b1 <;> cases b2 <;> cases b3 <;> first | exact jo | exact jl fun _ h => h.li 0 3), (by cases b1 <;> cases b2 <;> cases b3 <;> first | exact jo | exact jq fun w' _ => h4 ▸ refWord iss w'), (by cases b1 <;> cases b2 <;> cases b3 <;> exact jp), jm, trivial⟩ ?_
 intro a2 w2 H2 O2
 refine then_normal (wp_ret ?_)
 repeat (first | (with_reducible refine block_ret ?_) | (with_reducible refine then_ret ?_))
 exact bodyPost_ret (results_tmp rfl _ _ _) H2.df ⟨congrArg Ending.returned (H2.at_ 2 _ rfl), O2.bel⟩
theorem seg28 (ip mac port iss sq : Int) (vL : Value) (xs : List UInt8) (n : Nat) (hn : xs.length = n) (A : Option Addr) (c : Nat) (hnc : n ≤ c) (w : World) (hx : RB w w.heap.size A xs) (hl : n ≤ 140737488351232) :
  Calls Tryz.prog 39 #[.agg #[.int .i64 ip, .int .i64 mac, .int .i64 port, .int .i64 iss, vL, .int .i64 sq], .slice A n c] w fun e w' => ∃ v, e = .returned v ∧ SegRes w ((segTo xs ip port 167772161 1883).1, ((((segTo xs ip port 167772161 1883).2 && ((frOut xs).2 == 0)) && (((frOut xs).1.d : Int) == 2199023255553)) && (((frOut xs).1.s : Int) == mac))) v w' := by
 rcases hf : frOut xs with ⟨⟨fd, fs, ft, ys⟩, e1⟩
 rcases hs : segTo xs ip port 167772161 1883 with ⟨q, z1⟩
 go_enter Tryz.func39, Tryz.ntmps39
 refine Has.start 42 [(0, .agg #[.int .i64 ip, .int .i64 mac, .int .i64 port, .int .i64 iss, vL, .int .i64 sq]), (1, .slice A n c)] rfl rfl ⟨rfl, rfl, trivial⟩ ?_
 intro a0 H0
 have O0 := Own.start w
 refine rl ?_
 refine H0.bx O0 0 (L := [.int .i64 ip, .int .i64 mac, .int .i64 port, .int .i64 iss, vL, .int .i64 sq]) fun a1 w1 O1 H1 => ?_
 generalize hg : w.heap.size = g at O1 H1
 have bl : ∀ {w' : World} {bs : List (Nat × List Value)}, Own w g bs w' → Below w.heap.size w w' := fun h => hg ▸ h.bel
 refine H1.al O1 1 zero_sg fun a2 w2 O2 H2 => nt ?_
 have hg0 : g < w1.heap.size := O1.lt 0 rfl
 generalize w1.heap.size = g1 at O2 H2 hg0
 replace H2 := H2.kp [1, 2, 4]
 refine H2.rg 1 fun a3 H3 => ?_
 refine H3.cl (parseFrame xs n hn A c hnc w2 (hx.next (bl O2)) hl) ?_
 rintro a4 _ w3 ⟨A1, c1, hv, _, hb3⟩ H4
 rw [hf] at hv
 subst hv
 have O3 := O2.call hb3
 refine H4.ms 1 fun a5 H5 => ?_
 refine H5.ex (r := .agg ([.int .i64 (fd : Int), .int .i64 (fs : Int), .int .i64 (ft : Int), .slice A1 ys.length c1] : List Value).toArray) 0 fun a6 H6 => ?_
 refine H6.ex (r := .int .i64 e1) 0 fun a7 H7 => ?_
 refine H7.nk O3 1 (L := [.int .i64 (fd : Int), .int .i64 (fs : Int), .int .i64 (ft : Int), .slice A1 ys.length c1]) rfl zero_frm size_frm fun a8 w4 _ O4 _ H8 => nt ?_
 generalize w3.heap.size = g2 at O4 H8
 replace H8 := H8.kp [1, 2, 4, 6, 7]
 clear H0 H1 H2 H3 H4 H5 H6 H7 O0 O1 O2 O3 hb3
 refine H8.rg 2 fun a9 H9 => ?_
 refine H9.ld 1 (O4.li 2 0) fun a10 H10 => ?_
 refine H10.ld 0 (O4.li 2 2) fun a11 H11 => ?_
 refine H11.cl (pageSeg xs n hn A c hnc ip port 167772161 1883 w4 (hx.next (bl O4)) hl) ?_
 rintro a12 _ w5 ⟨A3, c3, hv, hO5, hb5⟩ H12
 rw [hs] at hv hO5
 subst hv
 have O5 := O4.call hb5
 have hg4 : g1 < w4.heap.size := O4.lt 1 rfl
 refine H12.ms 1 fun a13 H13 => ?_
 refine H13.ex (r := .agg ([.int .i64 q.sp, .int .i64 q.dp, .int .i64 q.sq, .int .i64 q.ak, .int .i64 q.fl, .int .i64 q.wn, .slice A3 q.xs.length c3] : List Value).toArray) 0 fun a14 H14 => ?_
 refine H14.ex (r := .bool z1) 0 fun a15 H15 => ?_
 refine H15.nk O5 1 (L := [.int .i64 q.sp, .int .i64 q.dp, .int .i64 q.sq, .int .i64 q.ak, .int .i64 q.fl, .int .i64 q.wn, .slice A3 q.xs.length c3]) rfl zero_sg size_sg fun a16 w6 hb6 O6 _ H16 => nt ?_
 have hO6 := own_below hO5 hb6
 generalize w5.heap.size = g3 at O6 H16
 generalize w4.heap.size = bb at hO6 hg4
 replace H16 := H16.kp [2, 4, 6, 7, 8, 9]
 clear H8 H9 H10 H11 H12 H13 H14 H15 O4 O5 hb5 hb6 hO5
 obtain ⟨z2, hz2⟩ : ∃ b, (e1 == 0) = b := ⟨_, rfl⟩
 obtain ⟨z3, hz3⟩ : ∃ b, ((fd : Int) == 2199023255553) = b := ⟨_, rfl⟩
 obtain ⟨z4, hz4⟩ : ∃ b, ((fs : Int) == mac) = b := ⟨_, rfl⟩
 simp only [hz2, hz3, hz4]
 refine H16.sg (fun w' => Own w g [(g3, [.int .i64 q.sp, .int .i64 q.dp, .int .i64 q.sq, .int .i64 q.ak, .int .i64 q.fl, .int .i64 q.wn, .slice A3 q.xs.length c3]), (g2, [.int .i64 (fd : Int), .int .i64 (fs : Int), .int .i64 (ft : Int), .slice A1 ys.length c1]), (g1, [.int .i64 0, .int .i64 0, .int .i64 0, .int .i64 0, .int .i64 0, .int .i64 0, nilV]), (g, [.int .i64 ip, .int .i64 mac, .int .i64 port, .int .i64 iss, vL, .int .i64 sq])] w' ∧ w'.ownsRow bb 5 1 (.slice A3 q.xs.length c3) q.xs.length (q.xs.map bv)) ⟨O6.drew, hO6⟩ [2, 4, 6, 7, 8, 9]
  [ec 0 24 (.agg ([.int .i64 q.sp, .int .i64 q.dp, .int .i64 q.sq, .int .i64 q.ak, .int .i64 q.fl, .int .i64 q.wn, .slice A3 q.xs.length c3] : List Value).toArray), ec 1 25 (.bool z1), ec 2 26 (.bool z1), ec 3 27 (gv z1 (.int .i64 e1)), ec 4 28 (gv z1 (.bool z2)), ec 5 29 (.bool (z1 && z2)), ec 6 30 (.bool (z1 && z2)),
   ec 7 31 (gv (z1 && z2) (.pointer (some ⟨g2, 0, none⟩))), ec 8 32 (gv (z1 && z2) (.int .i64 (fd : Int))), ec 9 33 (gv (z1 && z2) (.bool z3)), ec 10 34 (.bool ((z1 && z2) && z3)), ec 11 35 (.bool ((z1 && z2) && z3)),
   ec 12 36 (gv ((z1 && z2) && z3) (.pointer (some ⟨g2, 1, none⟩))), ec 13 37 (gv ((z1 && z2) && z3) (.int .i64 (fs : Int))), ec 14 38 (gv ((z1 && z2) && z3) (.pointer (some ⟨g, 1, none⟩))), ec 15 39 (gv ((z1 && z2) && z3) (.int .i64 mac)), ec 16 40 (gv ((z1 && z2) && z3) (.bool z4)), ec 17 41 (.bool (((z1 && z2) && z3) && z4)), ec 19 5 (.bool (((z1 && z2) && z3) && z4))] rfl ?_
 refine St.sto 18 ⟨jl fun _ h => loadT (h.1.get 0 rfl) Tryz.underlying36 rfl size_sg rfl, jm, jm, (by cases z1; exact jo; exact jm), (by cases z1; exact jo; exact jb fun _ => eql_iB _ _ z2 hz2 _ _ _), (by cases z1 <;> exact jp), jm,
   (by cases z1 <;> cases z2 <;> first | exact jo | exact jm), (by cases z1 <;> cases z2 <;> first | exact jo | exact jl fun _ h => h.1.li 1 0), (by cases z1 <;> cases z2 <;> first | exact jo | exact jb fun _ => eql_iB _ _ z3 hz3 _ _ _), (by cases z1 <;> cases z2 <;> exact jp), jm,
   (by cases z1 <;> cases z2 <;> cases z3 <;> first | exact jo | exact jm), (by cases z1 <;> cases z2 <;> cases z3 <;> first | exact jo | exact jl fun _ h => h.1.li 1 1), (by cases z1 <;> cases z2 <;> cases z3 <;> first | exact jo | exact jm), (by cases z1 <;> cases z2 <;> cases z3 <;> first | exact jo | exact jl fun _ h => h.1.li 3 1), (by cases z1 <;> cases z2 <;> cases z3 <;> first | exact jo | exact jb fun _ => eql_iB _ _ z4 hz4 _ _ _), (by cases z1 <;> cases z2 <;> cases z3 <;> exact jp), jm, trivial⟩ ?_
 rintro a17 wu H17 _ ⟨Ou, hOu⟩
 obtain ⟨w', hr, hg2', hs2, hC2⟩ := (Ou.get 2 rfl).sto (L := [.int .i64 q.sp, .int .i64 q.dp, .int .i64 q.sq, .int .i64 q.ak, .int .i64 q.fl, .int .i64 q.wn, .slice A3 q.xs.length c3]) size_sg rfl rfl rfl
 refine ⟨w', run_store rfl (H17.ev rfl) (H17.ev rfl) hr, nx0 (fun w' => Own w g [(g3, [.int .i64 q.sp, .int .i64 q.dp, .int .i64 q.sq, .int .i64 q.ak, .int .i64 q.fl, .int .i64 q.wn, .slice A3 q.xs.length c3]), (g2, [.int .i64 (fd : Int), .int .i64 (fs : Int), .int .i64 (ft : Int), .slice A1 ys.length c1]), (g1, [.int .i64 q.sp, .int .i64 q.dp, .int .i64 q.sq, .int .i64 q.ak, .int .i64 q.fl, .int .i64 q.wn, .slice A3 q.xs.length c3]), (g, [.int .i64 ip, .int .i64 mac, .int .i64 port, .int .i64 iss, vL, .int .i64 sq])] w' ∧ w'.ownsRow bb 5 1 (.slice A3 q.xs.length c3) q.xs.length (q.xs.map bv)) [] [] ⟨Ou.store 2 rfl hg2' hs2 hC2, hOu.kept hg2' (.inr (own_ne hOu (.inl hg4)).symm)⟩ ?_⟩
 refine St.fin ⟨(by cases z1 <;> cases z2 <;> cases z3 <;> first | exact jo | exact jm), (by cases z1 <;> cases z2 <;> cases z3 <;> first | exact jo | exact jl fun _ h => h.1.li 1 1), (by cases z1 <;> cases z2 <;> cases z3 <;> first | exact jo | exact jm), (by cases z1 <;> cases z2 <;> cases z3 <;> first | exact jo | exact jl fun _ h => h.1.li 3 1), (by cases z1 <;> cases z2 <;> cases z3 <;> first | exact jo | exact jb fun _ => eql_iB _ _ z4 hz4 _ _ _), (by cases z1 <;> cases z2 <;> cases z3 <;> exact jp), jm, trivial⟩ ?_ (hF := .inl rfl)
 rintro a18 w8 H18 _ ⟨O8, hO8⟩
 refine then_normal (wp_ret ?_)
 repeat (first | (with_reducible refine block_ret ?_) | (with_reducible refine then_ret ?_))
 exact bodyPost_ret (results_two Tryz.results39 _ _ _ (H18.at_ 4 _ rfl) (H18.at_ 5 _ rfl) (O8.get 2 rfl) Tryz.underlying36 rfl _ size_sg rfl) H18.df ⟨_, rfl, A3, c3, rfl, own_base hO8 (by omega), bl O8⟩
end
section
open Go.RowKit
theorem eql_p (a : Addr) (x y : Operand) (w : World) : (do eqGuard .eql 26 x y (.pointer (some a)) (.pointer none); binOp .eql 26 (.pointer (some a)) (.pointer none) : Sem Value).run Tryz.prog w = .ok (.bool false) w := by
 simp [go_sem]
section
variable (g ip mac port iss next wants : Nat) (vg vl : Value) (w : World) (hC : Cells w g (cliC ip mac port iss next wants false vg vl)) (hg : g < w.heap.size)
include hC hg
end
theorem wakes28 (w : World) : Calls Tryz.prog 16 #[] w fun e w' => e = .returned (.bool true) ∧ Below w.heap.size w w' := by
 go_enter Tryz.func16, Tryz.ntmps16
 refine Has.start 43 [] rfl rfl trivial ?_
 intro a0 H0
 refine H0.rg 1 fun a1 H1 => nt ?_
 refine rl ?_
 refine H1.cl (cliNew 5 6 7 8 (by decide) (by decide) (by decide) (by decide) w) ?_
 rintro a2 _ w1 ⟨g, rfl, O1⟩ H2
 refine H2.ms 1 fun a3 H3 => ?_
 refine H3.ex (r := pz g) 0 fun a4 H4 => ?_
 refine H4.ex (r := iz 0) 2 fun a5 H5 => nt ?_
 replace H5 := H5.kp [1, 2]
 refine H5.tb (fun w' => Own w w.heap.size [(g, cliC 5 6 7 8 (spAdd 8 1) 0 false nilV nilV)] w') (fun _ _ h hb => h.call hb) O1
  [ec 0 9 (iz 0), ec 1 10 (iz 0), ec 2 11 (.bool false), ec 3 12 (.bool false), ec 4 13 (pz g), ec 5 14 (.bool false), ec 6 15 (.bool false)] rfl
  ⟨jm, jq fun w' _ => num28 0 w', jb fun _ => neq_3 0 0 false rfl _ _ _, jm, jm, jb fun _ => eql_p _ _ _ _, jp, trivial⟩ ?_
 intro a6 w2 H6 O2
 refine then_normal (H6.condF rfl (skip_wp (then_normal ?_)))
 refine H6.rg 1 fun a7 H7 => ?_
 refine H7.cl (cliDial g 5 6 7 8 (spAdd 8 1) 0 false nilV nilV w2 (O2.get 0 rfl) (O2.lt 0 rfl) (by decide) (by decide) (by decide) (by decide)) ?_
 rintro a8 v3 w3 ⟨⟨A3, c3, rfl, hO3⟩, hg3, hC3⟩ H8
 have O3 := O2.turn 0 rfl hg3 hC3
 have hwl := wire_length 2199023255553 6 5 167772161 ⟨((7 : Nat) : Int), 1883, ((8 : Nat) : Int), 0, 2, 65535, []⟩
 have hr3 := rb_of_own rfl hO3 hg3.size
 refine H8.cl (pageSeg _ _ rfl A3 c3 (own_cap hO3) 5 7 167772161 1883 w3 hr3 (by rw [hwl]; decide)) ?_
 rintro a9 _ w4 ⟨A4, c4, hv, _, hb4⟩ H9
 have hq : Sg.ok ⟨7, 1883, 8, 0, 2, 65535, []⟩ = true := by decide
 rw [show segTo (wire 2199023255553 6 5 167772161 ⟨((7 : Nat) : Int), 1883, ((8 : Nat) : Int), 0, 2, 65535, []⟩) 5 7 167772161 1883 = (⟨7, 1883, 8, 0, 2, 65535, []⟩, true) from wire_back (q := ⟨((7 : Nat) : Int), 1883, ((8 : Nat) : Int), 0, 2, 65535, []⟩) (by decide) (by decide) (by decide) (by decide) hq] at hv
 subst hv
 have O4 := O3.call hb4
 refine H9.ms 1 fun a10 H10 => ?_
 refine H10.ex (r := .agg ([iz 7, iz 1883, iz 8, iz 0, iz 2, iz 65535, .slice A4 0 c4] : List Value).toArray) 0 fun a11 H11 => ?_
 refine H11.ex (r := .bool true) 0 fun a12 H12 => ?_
 refine H12.nk O4 1 (L := [iz 7, iz 1883, iz 8, iz 0, iz 2, iz 65535, .slice A4 0 c4]) rfl zero_sg size_sg fun a13 w5 _ O5 _ H13 => nt ?_
 generalize w4.heap.size = g4 at O5 H13
 replace H13 := H13.kp [1, 3, 4]
 refine H13.tb (fun w' => Own w w.heap.size [(g4, [iz 7, iz 1883, iz 8, iz 0, iz 2, iz 65535, .slice A4 0 c4]), (g, cliC 5 6 7 8 (spAdd 8 1) 0 false nilV nilV)] w') (fun _ _ h hb => h.call hb) O5
  [ec 0 22 (.bool true), ec 1 23 (.bool true), ec 2 24 (.pointer (some ⟨g4, 4, none⟩)), ec 3 25 (iz 2), ec 4 26 (.bool true), ec 5 27 (.bool true), ec 6 28 (.bool true), ec 7 29 (.pointer (some ⟨g4, 2, none⟩)), ec 8 30 (iz 8), ec 9 31 (.bool true), ec 10 32 (.bool true), ec 11 33 (.bool true), ec 12 34 (.pointer (some ⟨g4, 5, none⟩)), ec 13 35 (iz 65535), ec 14 36 (.bool true), ec 15 37 (.bool true), ec 16 38 (.bool true), ec 17 39 (pz g), ec 18 40 (.bool false), ec 19 41 (.bool true), ec 20 42 (.bool true), ec 21 0 (.bool true)] rfl
  ⟨jm, jm, jm, jl fun _ h => h.li 0 4, jb fun _ => eql_iB 2 2 true rfl _ _ _, jp, jm, jm, jl fun _ h => h.li 0 2, jb fun _ => eql_iB 8 8 true rfl _ _ _, jp, jm, jm, jl fun _ h => h.li 0 5, jb fun _ => eql_iB 65535 65535 true rfl _ _ _, jp, jm, jm, jq fun w' h => cliUp g 5 6 7 8 (spAdd 8 1) 0 false nilV nilV w' (h.get 1 rfl), ju (hq := run_not false), jp, jm, trivial⟩ ?_
 intro a14 w6 H14 O6
 refine then_normal (wp_ret ?_)
 repeat (first | (with_reducible refine block_ret ?_) | (with_reducible refine then_ret ?_))
 exact bodyPost_ret (results_tmp rfl _ _ _) H14.df ⟨congrArg Ending.returned (H14.at_ 0 _ rfl), O6.bel⟩
end
section
open Go.RowKit
def FrC (g : Nat) (vG : Value) (x : List UInt8) (u : Value) (w : World) : Prop := ∃ A c, u = .slice A x.length c ∧ x.length ≤ c ∧ RBS w (fun k => k ≠ g ∧ some k ≠ vG.ownBlock) A x
theorem FrC.next {g : Nat} {vG : Value} {x : List UInt8} {u : Value} {w w' : World} (h : FrC g vG x u w) (hb : Below w.heap.size w w') : FrC g vG x u w' := by
 obtain ⟨A, c, h1, h2, h3⟩ := h
 exact ⟨A, c, h1, h2, h3.grown (below_grown hb none) (fun k e => by cases e)⟩
theorem FrC.of {g b : Nat} {vG : Value} {x : List UInt8} {u : Value} {w : World} (h : FrIs b x u w) (hg : g < b) (hv : ∀ k, b ≤ k → some k ≠ vG.ownBlock) : FrC g vG x u w := by
 obtain ⟨A, c, h1, h2, h3⟩ := h
 exact ⟨A, c, h1, h2, h3.mono fun k _ hk => ⟨Nat.ne_of_gt (Nat.lt_of_lt_of_le hg hk), hv k hk⟩⟩
theorem RelV.ne {w : World} {v v' : Value} (hr : RelV w v v') {k : Nat} (hk : k < w.heap.size) (h : some k ≠ v.ownBlock) : some k ≠ v'.ownBlock := by
 rcases hr with e | e | ⟨j, e, hj⟩
 ·rw [e]; exact h
 ·rw [e]; simp
 ·rw [e]; intro e2; injection e2 with e2; omega
theorem Cells.kp {w w' : World} {g : Nat} {L : List Value} (h : Cells w g L) (hb : w'.heap[g]? = w.heap[g]?) : Cells w' g L := fun j v hv =>
 ⟨(World.cell?_of_block (a := ⟨g, j, none⟩) hb).trans (h j v hv).1, (World.frozen?_of_block (a := ⟨g, j, none⟩) hb).trans (h j v hv).2⟩
theorem rowC {g : Nat} {vG : Value} {fs : List (Value × List UInt8)} {w : World} (h : ∀ p ∈ fs, FrC g vG p.2 p.1 w) (hg : g < w.heap.size) (hv : some w.heap.size ≠ vG.ownBlock) :
  FrsS (w.alloc (.cells (fs.map (·.1)).toArray 31)) (fun k => k ≠ g ∧ some k ≠ vG.ownBlock) (some ⟨w.heap.size, 0, none⟩) (fs.map (·.2)) := by
 intro k x hk
 rw [List.getElem?_map] at hk
 cases hp : fs[k]? with
 | none => rw [hp] at hk; cases hk
 | some p =>
  rw [hp] at hk
  injection hk with hk
  subst hk
  obtain ⟨A, c, h1, h2, h3⟩ := h p (List.mem_of_getElem? hp)
  have hC := Cells.of_heap (l := fs.map (·.1)) (heap_alloc_new w (.cells (fs.map (·.1)).toArray 31))
  refine ⟨w.heap.size, 0, A, c, rfl, ⟨Nat.ne_of_gt hg, hv⟩, lt_alloc _ _, ?_, h2, h3.grown (below_grown (balloc w _) none) (fun k e => by cases e)⟩
  rw [Nat.zero_add]
  exact (hC k (.slice A p.2.length c) (by rw [List.getElem?_map, hp, ← h1]; rfl)).1
theorem frc_nil {g : Nat} {vG : Value} {w : World} : ∀ p ∈ ([] : List (Value × List UInt8)), FrC g vG p.2 p.1 w := fun p hp => by cases hp
theorem frc_cons {g : Nat} {vG : Value} {w : World} {u : Value} {x : List UInt8} {l : List (Value × List UInt8)} (h : FrC g vG x u w) (hl : ∀ p ∈ l, FrC g vG p.2 p.1 w) : ∀ p ∈ (u, x) :: l, FrC g vG p.2 p.1 w := fun p hp => by
 rcases List.mem_cons.1 hp with rfl | hp
 ·exact h
 ·exact hl p hp
theorem back28F (ip mac port : Nat) (iss sqp : Int) (vL : Value) (sq ak fl : Nat) (xs : List UInt8) (A : Option Addr) (c : Nat) (hq : (sg28 port sq ak fl xs).ok = true) (hip : ip < 4294967296) (hm : mac < 281474976710656) (w : World) (hx : RB w w.heap.size A xs) :
  Calls Tryz.prog 13 #[.agg ([iz ip, iz mac, iz port, iz iss, vL, iz sqp] : List Value).toArray, .agg ([iz 0, iz 0, iz sq, iz ak, iz fl, iz 0, .slice A xs.length c] : List Value).toArray] w fun e w' => ∃ v, e = .returned v ∧ ∃ A' c', v = .slice A' (54 + xs.length) c' ∧ FrIs w.heap.size (fr28 mac ip port sq ak fl xs) (.slice A' (54 + xs.length) c') w' ∧ Below w.heap.size w w' :=
 (back28 ip mac port iss sqp vL sq ak fl 0 0 0 xs A c hq hip hm w hx).mono fun _ _ ⟨v, h1, h2, h3⟩ => by
  obtain ⟨A', c', e, h4, h5⟩ := FrIs.of h2
  rw [wire_length] at e h4
  subst e
  exact ⟨_, h1, A', c', rfl, ⟨A', c', by unfold fr28; rw [wire_length], by unfold fr28; rw [wire_length]; exact h4, h5⟩, h3⟩
theorem fr28_len (mac ip port sq ak fl : Nat) (xs : List UInt8) : (fr28 mac ip port sq ak fl xs).length = 54 + xs.length := wire_length ..
end
section
open Go.ChangeShapes Go.WideShapes Go.ChangeAt Go.RowKit Go.Deep
theorem own_knob : ownKnob Tryz.prog.godebug = none := by kernel_rfl
theorem laid_out : laidOutB Tryz.prog = true := by kernel_rfl
section
variable {H : Type} {enc : TypeId × Value → H} {P : Program}
theorem post_of_below {f : Func} {s : ChangeSpec} {apart fresh handsOn again : Bool} {W W' : World} {args : Array Value} {v : Value} {ds gs : List (DataW H)} {before pa pv : List MemPlace}
  (hW : DataW.Whole enc P f.params.toList s.vars apart W args.toList ds gs before)
  (hres : ∀ (b : Nat) (sp : Nat → Bool) (hd : Bool), DataW.TrodAll enc P W' b sp hd f.resultTypes.toList (v.resultList f.resultTypes.size) (s.fn H (ds ++ gs)).results [])
  (hargs : ∀ sp : Nat → Bool, (∀ p ∈ before, sp p.block = true) → DataW.TrodAll enc P W' 0 sp true f.params.toList args.toList (s.fn H (ds ++ gs)).args pa)
  (hvars : ∀ sp : Nat → Bool, (∀ p ∈ before, sp p.block = true) → DataW.TrodVars enc P W' sp s.vars (s.fn H (ds ++ gs)).vars pv)
  (hps : before = pa ++ pv) (hb : Below W.heap.size W W')
  (hok : ∀ (j : Nat) (t : TypeId) (r : Value), f.resultTypes[j]? = some t → (v.resultList f.resultTypes.size)[j]? = some r → Value.okWide P W' .any 0 t r) :
  s.post enc P f apart fresh handsOn again W args v W' := by
 have hlt : ∀ p ∈ before, p.block < W.heap.size := fun p hp => hW.lt p hp
 have hold : ∀ p ∈ before, (fun b => decide (b < W.heap.size)) p.block = true := fun p hp => by simpa using hlt p hp
 refine ⟨ds, gs, before, [], pa, pv, hW, hres _ _ _, hargs _ hold, hvars _ hold, World.keptBut_mono (fun p hp => ⟨hp, ?_⟩) (hb.frame (· ∈ before)), fun _ => ?_⟩
 ·rw [hps, List.mem_append] at hp
  exact Or.inr hp
 ·obtain ⟨_, _, _, _, _, hz, hn⟩ := hW
  refine ⟨hok, _, _, ([] ++ pa) ++ pv, ⟨[] ++ pa, pv, trodAll_append (hargs _ (fun _ _ => rfl)) (hres _ _ _), hvars _ (fun _ _ => rfl), rfl, ?_, ?_⟩, ?_⟩
  ·intro b off hp
   have hin : MemPlace.cell b off ∈ before := by rw [hps]; simpa using hp
   rw [hb.frozen (hlt _ hin)]
   exact hz b off hin
  ·intro ha
   have := hn ha
   rw [hps] at this
   simpa using this
  ·intro p hp _
   rw [hps]
   simpa using hp
end
def Comes {H : Type} (enc : TypeId × Value → H) (W : World) (T : TypeId) (v : Value) (d : DataW H) (p : List MemPlace) : Prop :=
 DataW.Trod enc Tryz.prog W 0 (fun _ => true) true T v d p ∧ (∃ base, Value.okWide Tryz.prog W .any base T v) ∧ (DataW.weightsEach Tryz.prog [T] [d]).all (· ≤ reachBytes) = true
section
theorem ok_first {P : Program} {fn : Func} {W : World} {base : Nat} {T : TypeId} {args : Array Value} {v : Value} (hp : fn.params = #[T]) (ha : args[0]? = some v)
  (h : ∀ (j : Nat) t v, fn.params[j]? = some t → args[j]? = some v → Value.okWide P W .any base t v) : ∃ base, Value.okWide P W .any base T v := ⟨base, h 0 T v (by rw [hp]; rfl) ha⟩
theorem ok_bool {P : Program} {W : World} {Tb : TypeId} (hb : P.underlying Tb = some .bool) : ∀ (j : Nat) (t : TypeId) (r : Value), #[Tb][j]? = some t → ((Value.bool true).resultList 1)[j]? = some r → Value.okWide P W .any 0 t r := by
 intro j t r hj hr'
 match j, hj, hr' with
 | 0, hj, hr' =>
  simp [Value.resultList] at hj hr'
  subst hj; subst hr'
  exact okWide_bool_mk hb true
 | j + 1, hj, _ => simp at hj
theorem laid_core {C : Checked} {K : FuncId} {fn : Func} {T Tb : TypeId} {s : ChangeSpec} {lay : List (String × DataW Unit)} (own : ownKnob C.prog.godebug = none) (hlo : laidOutB C.prog = true) (hK : C.prog.funcs[K]? = some fn) (hp : fn.params = #[T]) (hr : fn.resultTypes = #[Tb]) (hb : C.prog.underlying Tb = some .bool)
  (hvars : s.vars = []) (hfn : ∀ (H : Type) (d : DataW H), s.fn H [d] = { results := [.lit (.bool true)], args := [d] })
  (hT : C.prog.readableRec T = true) (hTs : T < C.prog.types.size) (noInit : C.prog.inits.idxOf? K = none)
  (walk : ∀ (H : Type) (enc : TypeId × Value → H) (W : World) (v : Value) (d : DataW H) (p : List MemPlace), DataW.Trod enc C.prog W 0 (fun _ => true) true T v d p → (∃ base, Value.okWide C.prog W .any base T v) → (DataW.weightsEach C.prog [T] [d]).all (· ≤ reachBytes) = true → laidMetH C.prog lay W → Calls C.prog K #[v] W fun e W' => e = .returned (.bool true) ∧ Below W.heap.size W W')
  (os : Os) (started : os.Started) (H : Type) (enc : TypeId × Value → H)
  (witness : ∃ (w : World) (tape : Tape) (i : Input), w.os = os ∧ (w.forCall tape i).Shaped C.prog ∧ i.vars = [] ∧ Input.okWide C.prog (w.forCall tape i) .any w.heap.size K i ∧
   ((s.pre enc C.prog fn [] false (w.forCall tape i).memory i.args ∧ laidMetH C.prog lay (w.forCall tape i).memory) ∧ sizedMet enc C.prog fn (OpenSpec.ofChange s) false (w.forCall tape i).memory i.args) ∧ ({} : Assume).holds C.prog (lone (Frame.enter C.prog K i.args .normal) [] (w.forCall tape i))) :
  ReturnsInHanded {} C os K .any (fun w args => (s.pre enc C.prog fn [] false w args ∧ laidMetH C.prog lay w) ∧ sizedMet enc C.prog fn (OpenSpec.ofChange s) false w args) (s.post enc C.prog fn false true false false) := by
 refine returnsInHanded_of_change_and (X := fun w _ => laidMetH C.prog lay w) (fun _ _ _ hh h => h.of_heap hh) own started noInit hK witness ?_
 intro W base args ds gs before hval0 hW _ hsz0 hL _
 have hW' := hW
 obtain ⟨p, q, hA, hV, rfl, _, _⟩ := hW
 rw [hvars] at hV
 obtain ⟨rfl, rfl⟩ := trodVars_none hV
 rw [hp] at hA
 obtain ⟨v, d, ha, rfl, h0⟩ := trodAll_one hA
 subst ha
 have hsz : (DataW.weightsEach C.prog [T] [d]).all (· ≤ reachBytes) = true := by
  have h : (DataW.weightsEach C.prog (fn.params.toList ++ s.plain.varTypes C.prog) ([d] ++ [])).all (· ≤ reachBytes) = true := hsz0
  rw [hp] at h
  simpa [DataSpec.varTypes, ChangeSpec.plain, hvars] using h
 have hlt : ∀ x ∈ p, x.block < W.heap.size := fun x hx => hW'.lt x (by simpa using hx)
 refine (walk H enc W v d p h0 (ok_first hp rfl hval0) hsz hL).mono fun e W' ⟨he, hbl⟩ => ?_
 refine ⟨_, he, post_of_below (pa := p) (pv := []) hW' ?_ ?_ ?_ (by simp) hbl ?_⟩
 ·intro b sp hd
  rw [hr, List.append_nil, hfn]
  exact trodAll_mk1 (shut_bool hb true)
 ·intro sp hsp
  rw [hp, List.append_nil, hfn]
  exact trodAll_mk1 (WideElems.Trod_stays hlo hT hTs h0 (fun x hx => hbl.same (hlt x hx)) (fun x hx => hsp x (by simpa using hx)))
 ·intro sp _
  rw [hvars, List.append_nil, hfn]
  rfl
 ·rw [hr]
  exact ok_bool hb
end
end
section
open Go.ChangeShapes Go.WideShapes Go.ChangeAt Go.RowKit Go.Deep
def Fit {H : Type} (t : TypeId) (d : DataW H) : Prop := ∀ n ∈ DataW.weights Tryz.prog t d, n ≤ 140737488351232
theorem Fit.of {H : Type} {T : TypeId} {d : DataW H} (h : (DataW.weightsEach Tryz.prog [T] [d]).all (· ≤ reachBytes) = true) : Fit T d := by
 intro n hn
 have := List.all_eq_true.1 h n (DataW.weights_mem_each (j := 0) rfl rfl n hn)
 have h2 : n ≤ reachBytes := by simpa using this
 exact h2
theorem Fit.slice {H : Type} {t e : TypeId} {elems spare : List (DataW H)} (h : Fit t (.slice elems spare)) (ht : Tryz.prog.underlying t = some (.slice e)) :
  (elems.length + spare.length) * Tryz.prog.bytesOf e ≤ 140737488351232 ∧ ∀ x ∈ elems, Fit e x := by
 have hw : DataW.weights Tryz.prog t (.slice elems spare) = (elems.length + spare.length) * Tryz.prog.bytesOf e :: (DataW.weightsAll Tryz.prog e elems ++ DataW.weightsAll Tryz.prog e spare) := by
  simp [DataW.weights, ht]
 unfold Fit at h
 rw [hw] at h
 refine ⟨h _ (by simp), fun x hx n hn => h n ?_⟩
 have : ∀ l : List (DataW H), x ∈ l → n ∈ DataW.weightsAll Tryz.prog e l := by
  intro l
  induction l with
  | nil => intro h; cases h
  | cons a r ih =>
   intro h
   simp only [DataW.weightsAll, List.mem_append]
   rcases List.mem_cons.1 h with rfl | h
   ·exact Or.inl hn
   ·exact Or.inr (ih h)
 simp [this elems hx]
theorem Fit.struct {H : Type} {t : TypeId} {fs : Array Field} {ys : List (DataW H × List MemPlace)} (h : Fit t (.agg (ys.map (·.1)))) (ht : Tryz.prog.underlying t = some (.struct fs)) (j : Nat) (f : Field) (hf : fs[j]? = some f) (y : DataW H × List MemPlace) (hy : ys[j]? = some y) : Fit f.type y.1 := by
 intro n hn
 refine h n ?_
 have hw : DataW.weights Tryz.prog t (.agg (ys.map (·.1))) = DataW.weightsEach Tryz.prog (fs.toList.map (·.type)) (ys.map (·.1)) := by simp [DataW.weights, ht]
 rw [hw]
 refine DataW.weights_mem_each (j := j) (t := f.type) (d := y.1) ?_ ?_ n hn
 ·rw [List.getElem?_map]
  simp [hf]
 ·rw [List.getElem?_map, hy]; rfl
section
variable {H : Type} {enc : TypeId × Value → H} {W : World}
end
theorem okw_struct {P : Program} {W : World} {T : TypeId} {fs : Array Field} {v : Value} (ht : P.underlying T = some (.struct fs)) (h : ∃ base, Value.okWide P W .any base T v) : ∃ cs, v = .agg cs ∧ cs.size = P.cellsOf T := by
 obtain ⟨b, hv⟩ := h
 unfold Value.okWide at hv
 rw [ht] at hv
 obtain ⟨cs, h1, h2, _⟩ := hv
 exact ⟨cs, h1, h2⟩
end
section
open Go.RowKit
def wgt : List Nat → Nat → Nat
 | [], n => n
 | x :: xs, n => if n < 1048576 then wgt xs (n + x) else n
theorem wgt_le (M : Nat) (hM : 1048576 ≤ M) (X : Nat) : ∀ (l : List Nat) (n : Nat), (∀ x ∈ l, x ≤ X) → n ≤ M + X → wgt l n ≤ M + X
 | [], _, _, hn => hn
 | x :: xs, n, h, hn => by
  unfold wgt
  have hx := h x List.mem_cons_self
  split
  ·exact wgt_le M hM X xs (n + x) (fun y hy => h y (List.mem_cons_of_mem _ hy)) (by omega)
  ·exact hn
theorem add_wrap (a b : Nat) (h : a + b < 9223372036854775808) : IntKind.i64.wrap ((a : Int) + (b : Int)) = ((a + b : Nat) : Int) := by
 rw [IntWalk.i64_in _ (by omega)]; omega
theorem weighWishes (l : List (ByteArray × Int)) (A : Option Addr) (c : Nat) (hn : l.length ≤ 140737488351232) (hf : ∀ s ∈ l, Fits s.1) (w : World) (hr : Reads w w.heap.size 2 A l.length (wv l)) :
  Calls Tryz.prog 69 #[.slice A l.length c] w fun e w' => e = .returned (.int .i64 ((wgt (l.map (·.1.size)) l.length : Nat) : Int)) ∧ w = w' := by
 have HX : Hid (wgt ((l.drop 0).map (·.1.size)) l.length = wgt (l.map (·.1.size)) l.length) := rfl
 generalize wgt (l.map (·.1.size)) l.length = X at *
 go_enter Tryz.func69, Tryz.ntmps69
 go_wp2
 go_loopw [3, 4] (fun nv i wr => ∃ k n : Nat, k ≤ l.length ∧ nv = .int .i64 (n : Int) ∧ i = .int .i64 (k : Int) ∧ w = wr ∧ n ≤ 140737489399808 ∧ Hid (wgt ((l.drop k).map (·.1.size)) n = X)) (fun _ i _ => l.length - (intOf i).toNat)
 case atStart => exact ⟨0, l.length, Nat.zero_le _, rfl, rfl, rfl, by omega, HX⟩
 case round =>
  obtain ⟨k, n, hk, rfl, rfl, rfl, hnB, hf2⟩ := hrel
  by_cases hlt : k < l.length
  ·obtain ⟨b, o, x, rfl, hb, hx, hc0, hc1⟩ := Reads.wish hr rfl hlt
   have hs := hf x (List.mem_of_getElem? hx)
   have hd := drop_of hx
   have hf3 := hf2.out
   rw [hd, List.map_cons, wgt] at hf3
   by_cases hn2 : n < 1048576
   ·rw [if_pos hn2] at hf3
    have HP : Hid (wgt ((l.drop (k + 1)).map (·.1.size)) (n + x.1.size) = X) := hf3
    have hw := add_wrap n x.1.size (by omega)
    have hn3 : (n : Int) < 1048576 := by omega
    clear hn2
    clear hx hd hf3 hf2 hc1 hf
    go_wp2
    go_roundw
    case rel => exact ⟨k + 1, n + x.1.size, by omega, by simp, by go_num, by first | trivial | rfl, by omega, HP⟩
    case measure => simp [intOf]; omega
   ·rw [if_neg hn2] at hf3
    have HP : Hid (n = X) := hf3
    have hn3 : ¬ (n : Int) < 1048576 := by omega
    clear hn2
    clear hx hd hf3 hf2 hc1 hf hc0
    go_wp2
    go_ret
    exact ⟨by rw [← HP.out]; rfl, rfl⟩
  ·have HP : Hid (n = X) := by
    have := hf2.out
    rw [List.drop_eq_nil_of_le (by omega)] at this
    exact this
   clear hf2 hf
   go_wp2
   go_ret
   exact ⟨by rw [← HP.out]; rfl, rfl⟩
theorem weighStrs (l : List ByteArray) (A : Option Addr) (c : Nat) (hn : l.length ≤ 140737488351232) (hf : ∀ s ∈ l, Fits s) (w : World) (hr : Reads w w.heap.size 1 A l.length (l.map sv)) :
  Calls Tryz.prog 70 #[.slice A l.length c] w fun e w' => e = .returned (.int .i64 ((wgt (l.map (·.size)) l.length : Nat) : Int)) ∧ w = w' := by
 have HX : Hid (wgt ((l.drop 0).map (·.size)) l.length = wgt (l.map (·.size)) l.length) := rfl
 generalize wgt (l.map (·.size)) l.length = X at *
 go_enter Tryz.func70, Tryz.ntmps70
 go_wp2
 go_loopw [3, 4] (fun nv i wr => ∃ k n : Nat, k ≤ l.length ∧ nv = .int .i64 (n : Int) ∧ i = .int .i64 (k : Int) ∧ w = wr ∧ n ≤ 140737489399808 ∧ Hid (wgt ((l.drop k).map (·.size)) n = X)) (fun _ i _ => l.length - (intOf i).toNat)
 case atStart => exact ⟨0, l.length, Nat.zero_le _, rfl, rfl, rfl, by omega, HX⟩
 case round =>
  obtain ⟨k, n, hk, rfl, rfl, rfl, hnB, hf2⟩ := hrel
  by_cases hlt : k < l.length
  ·obtain ⟨b, o, x, rfl, hb, hx, hc0⟩ := Reads.str hr rfl hlt
   have hs := hf x (List.mem_of_getElem? hx)
   have hd := drop_of hx
   have hf3 := hf2.out
   rw [hd, List.map_cons, wgt] at hf3
   by_cases hn2 : n < 1048576
   ·rw [if_pos hn2] at hf3
    have HP : Hid (wgt ((l.drop (k + 1)).map (·.size)) (n + x.size) = X) := hf3
    have hw := add_wrap n x.size (by omega)
    have hn3 : (n : Int) < 1048576 := by omega
    clear hn2
    clear hx hd hf3 hf2 hf
    go_wp2
    go_roundw
    case rel => exact ⟨k + 1, n + x.size, by omega, by simp, by go_num, by first | trivial | rfl, by omega, HP⟩
    case measure => simp [intOf]; omega
   ·rw [if_neg hn2] at hf3
    have HP : Hid (n = X) := hf3
    have hn3 : ¬ (n : Int) < 1048576 := by omega
    clear hn2
    clear hx hd hf3 hf2 hf hc0
    go_wp2
    go_ret
    exact ⟨by rw [← HP.out]; rfl, rfl⟩
  ·have HP : Hid (n = X) := by
    have := hf2.out
    rw [List.drop_eq_nil_of_le (by omega)] at this
    exact this
   clear hf2 hf
   go_wp2
   go_ret
   exact ⟨by rw [← HP.out]; rfl, rfl⟩
theorem add_n (a b : Nat) (h : a + b < 9223372036854775808) (x y : Operand) (w : World) : (do eqGuard .add 3 x y (.int .i64 (a : Int)) (.int .i64 (b : Int)); binOp .add 3 (.int .i64 (a : Int)) (.int .i64 (b : Int)) : Sem Value).run Tryz.prog w = .ok (.int .i64 ((a + b : Nat) : Int)) w := by
 simp [go_sem]
 rw [add_wrap _ _ h]
 rfl
def wishW (m : Mq) : Nat := wgt (m.wishes.map (·.1.size)) m.wishes.length
def filtW (m : Mq) : Nat := wgt (m.filters.map (·.size)) m.filters.length
def mqW (m : Mq) : Nat := m.client.size + m.wt.size + m.wp.size + m.user.size + m.pass.size + m.codes.length + m.topic.size + m.payload.size + wishW m + filtW m
theorem weighMq (m : Mq) (vc vw vf : Value) (w : World) (hL : MqL w w.heap.size m vc vw vf) (hF : MqFit m) :
  Calls Tryz.prog 33 #[.agg (mqCells m vc vw vf).toArray] w fun e w' => e = .returned (.int .i64 ((mqW m : Nat) : Int)) ∧ Below w.heap.size w w' := by
 obtain ⟨A1, c1, A2, c2, A3, c3, rfl, rfl, rfl, l1, l2, l3, k1', k2', k3', r1, r2, r3⟩ := id hL
 have f1 := hF.client
 have f2 := hF.wt
 have f3 := hF.wp
 have f4 := hF.user
 have f5 := hF.pass
 have f6 := hF.topic
 have f7 := hF.payload
 unfold Fits at f1 f2 f3 f4 f5 f6 f7
 have g1 : wishW m ≤ 1000000000000000 := Nat.le_trans (wgt_le 140737488351232 (by decide) 140737488351232 _ _ (by intro x hx; obtain ⟨s, hs, rfl⟩ := List.mem_map.1 hx; exact hF.wishes s hs) (by omega)) (by decide)
 have g2 : filtW m ≤ 1000000000000000 := Nat.le_trans (wgt_le 140737488351232 (by decide) 140737488351232 _ _ (by intro x hx; obtain ⟨s, hs, rfl⟩ := List.mem_map.1 hx; exact hF.filters s hs) (by omega)) (by decide)
 go_enter Tryz.func33, Tryz.ntmps33
 refine Has.start 44 [(0, .agg (mqCells m (.slice A1 m.codes.length c1) (.slice A2 m.wishes.length c2) (.slice A3 m.filters.length c3)).toArray)] rfl rfl ⟨rfl, trivial⟩ ?_
 intro a0 H0
 have O0 := Own.start w
 refine rl ?_
 refine H0.bx O0 1 fun a2 w1 O1 H2 => nt ?_
 have HB1 := Base.of O1
 obtain ⟨b0, hb0⟩ : ∃ b0, b0 = w1.heap.size := ⟨_, rfl⟩
 rw [← hb0] at HB1
 have hb0' := hb0
 clear hb0
 have H3 := H2.kp [1]
 refine H3.dr HB1 [1] rfl [ec 0 3 (.pointer (some ⟨w.heap.size, 1, none⟩)), ec 1 4 (.string m.client), ec 2 5 (.int .i64 ((m.client.size : Nat) : Int)), ec 3 6 (.pointer (some ⟨w.heap.size, 4, none⟩)), ec 4 7 (.pointer (some ⟨w.heap.size, 5, none⟩)), ec 5 8 (.string m.wt), ec 6 9 (.int .i64 ((m.wt.size : Nat) : Int)), ec 7 10 (.int .i64 ((m.client.size + m.wt.size : Nat) : Int)), ec 8 11 (.pointer (some ⟨w.heap.size, 4, none⟩)), ec 9 12 (.pointer (some ⟨w.heap.size, 6, none⟩)), ec 10 13 (.string m.wp), ec 11 14 (.int .i64 ((m.wp.size : Nat) : Int)), ec 12 15 (.int .i64 ((m.client.size + m.wt.size + m.wp.size : Nat) : Int)), ec 13 16 (.pointer (some ⟨w.heap.size, 9, none⟩)), ec 14 17 (.string m.user), ec 15 18 (.int .i64 ((m.user.size : Nat) : Int)), ec 16 19 (.int .i64 ((m.client.size + m.wt.size + m.wp.size + m.user.size : Nat) : Int)), ec 17 20 (.pointer (some ⟨w.heap.size, 11, none⟩)), ec 18 21 (.string m.pass), ec 19 22 (.int .i64 ((m.pass.size : Nat) : Int)), ec 20 23 (.int .i64 ((m.client.size + m.wt.size + m.wp.size + m.user.size + m.pass.size : Nat) : Int)), ec 21 24 (.pointer (some ⟨w.heap.size, 15, none⟩)), ec 22 25 (.slice A1 m.codes.length c1), ec 23 26 (.int .i64 ((m.codes.length : Nat) : Int)), ec 24 27 (.int .i64 ((m.client.size + m.wt.size + m.wp.size + m.user.size + m.pass.size + m.codes.length : Nat) : Int)), ec 25 28 (.pointer (some ⟨w.heap.size, 19, none⟩)), ec 26 29 (.string m.topic), ec 27 30 (.int .i64 ((m.topic.size : Nat) : Int)), ec 28 31 (.int .i64 ((m.client.size + m.wt.size + m.wp.size + m.user.size + m.pass.size + m.codes.length + m.topic.size : Nat) : Int)), ec 29 32 (.pointer (some ⟨w.heap.size, 21, none⟩)), ec 30 33 (.string m.payload), ec 31 34 (.int .i64 ((m.payload.size : Nat) : Int)), ec 32 35 (.int .i64 ((m.client.size + m.wt.size + m.wp.size + m.user.size + m.pass.size + m.codes.length + m.topic.size + m.payload.size : Nat) : Int)), ec 33 36 (.pointer (some ⟨w.heap.size, 22, none⟩)), ec 34 37 (.slice A2 m.wishes.length c2), ec 35 38 (.int .i64 ((wishW m : Nat) : Int)), ec 36 39 (.int .i64 ((m.client.size + m.wt.size + m.wp.size + m.user.size + m.pass.size + m.codes.length + m.topic.size + m.payload.size + wishW m : Nat) : Int)), ec 37 40 (.pointer (some ⟨w.heap.size, 23, none⟩)), ec 38 41 (.slice A3 m.filters.length c3), ec 39 42 (.int .i64 ((filtW m : Nat) : Int)), ec 40 43 (.int .i64 ((m.client.size + m.wt.size + m.wp.size + m.user.size + m.pass.size + m.codes.length + m.topic.size + m.payload.size + wishW m + filtW m : Nat) : Int)), ec 41 2 (.int .i64 ((m.client.size + m.wt.size + m.wp.size + m.user.size + m.pass.size + m.codes.length + m.topic.size + m.payload.size + wishW m + filtW m : Nat) : Int))] rfl ⟨jm, (jl fun _ h => h.own.ls 0 1), js Tryz.underlying9, jm, jm, (jl fun _ h => h.own.ls 0 5), js Tryz.underlying9, (jB rfl rfl rfl rfl rfl rfl fun _ => (add_n _ _ (by omega) _ _ _)), jm, jm, (jl fun _ h => h.own.ls 0 6), js Tryz.underlying9, (jB rfl rfl rfl rfl rfl rfl fun _ => (add_n _ _ (by omega) _ _ _)), jm, (jl fun _ h => h.own.ls 0 9), js Tryz.underlying9, (jB rfl rfl rfl rfl rfl rfl fun _ => (add_n _ _ (by omega) _ _ _)), jm, (jl fun _ h => h.own.ls 0 11), js Tryz.underlying9, (jB rfl rfl rfl rfl rfl rfl fun _ => (add_n _ _ (by omega) _ _ _)), jm, (jl fun _ h => h.own.l6 0 15), jn Tryz.underlying45, (jB rfl rfl rfl rfl rfl rfl fun _ => (add_n _ _ (by omega) _ _ _)), jm, (jl fun _ h => h.own.ls 0 19), js Tryz.underlying9, (jB rfl rfl rfl rfl rfl rfl fun _ => (add_n _ _ (by omega) _ _ _)), jm, (jl fun _ h => h.own.ls 0 21), js Tryz.underlying9, (jB rfl rfl rfl rfl rfl rfl fun _ => (add_n _ _ (by omega) _ _ _)), jm, (jl fun _ h => h.own.l7 0 22), (jq fun ww h => (weighWishes m.wishes A2 c2 k2' hF.wishes ww ((r2.below h.own.bel).more h.own.le))), (jB rfl rfl rfl rfl rfl rfl fun _ => (add_n _ _ (by omega) _ _ _)), jm, (jl fun _ h => h.own.l8 0 23), (jq fun ww h => (weighStrs m.filters A3 c3 k3' hF.filters ww ((r3.below h.own.bel).more h.own.le))), (jB rfl rfl rfl rfl rfl rfl fun _ => (add_n _ _ (by omega) _ _ _)), jm, trivial⟩ trivial ?_ ?_
 ·exact fun _ _ _ _ _ _ _ _ _ _ _ hh => False.elim hh
 ·intro listed a4 w2 hall hI
  have r_2 := hI.vs _ (ma 41 rfl) (.inr (hall 41 (by decide))) trivial
  have H4 : Has a4 44 [(1, .pointer (some ⟨w.heap.size, 0, none⟩)), (2, .int .i64 ((m.client.size + m.wt.size + m.wp.size + m.user.size + m.pass.size + m.codes.length + m.topic.size + m.payload.size + wishW m + filtW m : Nat) : Int))] := Has.of hI.sz hI.df ⟨hI.fx.1, r_2, trivial⟩
  have HB2 := hI.wp
  refine then_normal ?_
  refine wp_ret ?_
  repeat (first | (with_reducible refine block_ret ?_) | (with_reducible refine then_ret ?_))
  exact bodyPost_ret (results_tmp rfl _ _ _) H4.df ⟨congrArg Ending.returned (H4.at_ 2 _ rfl), HB2.own.bel⟩
end
section
open Go.ChangeShapes Go.WideShapes Go.ChangeAt Go.RowKit Go.Deep
theorem cells_int : Tryz.prog.cellsOf 3 = 1 := by kernel_rfl
theorem cells_str : Tryz.prog.cellsOf 9 = 1 := by kernel_rfl
theorem cells_bool : Tryz.prog.cellsOf 4 = 1 := by kernel_rfl
theorem cells_wish : Tryz.prog.cellsOf 161 = 2 := by kernel_rfl
theorem cells_ints : Tryz.prog.cellsOf 45 = 1 := by kernel_rfl
theorem cells_strs : Tryz.prog.cellsOf 47 = 1 := by kernel_rfl
theorem cells_wishes : Tryz.prog.cellsOf 46 = 1 := by kernel_rfl
theorem cells_mq : Tryz.prog.cellsOf 49 = 24 := by kernel_rfl
theorem cells_will : Tryz.prog.cellsOf 44 = 5 := by kernel_rfl
theorem bytes_int : Tryz.prog.bytesOf 3 = 8 := by kernel_rfl
theorem bytes_str : Tryz.prog.bytesOf 9 = 16 := by kernel_rfl
theorem bytes_wish : Tryz.prog.bytesOf 161 = 24 := by kernel_rfl
section
variable {H : Type} {enc : TypeId × Value → H} {W : World}
theorem Fit.str {s : ByteArray} (h : Fit (H := H) 9 (.lit (.string s.data.toList))) : Fits s := by
 have h1 : s.data.toList.length ∈ DataW.weights (H := H) Tryz.prog 9 (.lit (.string s.data.toList)) := by
  rw [DataW.weights]
  exact List.mem_singleton.2 rfl
 have h2 := h _ h1
 rw [Array.length_toList] at h2
 exact h2
theorem read_str {n : Nat} {cs : List Value} {x : DataW H × List MemPlace} (hfit : Fit 9 x.1) (h : DataW.trod enc Tryz.prog W 0 (fun _ => true) true n 9 cs = some x) : ∃ s : ByteArray, cs = [.string s] ∧ Fits s := by
 obtain ⟨s, h1, h2, _⟩ := DataW.trod_string Tryz.underlying9 h
 refine ⟨s, h1, ?_⟩
 rw [h2] at hfit
 exact Fit.str hfit
theorem reads_of {a : Addr} {size n : Nat} {xs : List Value} (hl : xs.length = n * size) (hs : 0 < size) (hc : ∀ j u, xs[j]? = some u → W.cell? (a.add j) = some u) : Reads W W.heap.size size (some a) n xs := by
 refine ⟨hl, fun hn => ⟨a, rfl, ?_, hc⟩⟩
 have h0 : 0 < xs.length := by rw [hl]; exact Nat.mul_pos hn hs
 have := World.block_lt_of_cell? W _ (hc 0 _ (List.getElem?_eq_getElem h0))
 rwa [block_of_add] at this
theorem read_ints {n : Nat} {cs : List Value} {x : DataW H × List MemPlace} (hfit : Fit 45 x.1) (h : DataW.trod enc Tryz.prog W 0 (fun _ => true) true n 45 cs = some x) :
  ∃ (l : List Int) (A : Option Addr) (c : Nat), cs = [.slice A l.length c] ∧ l.length ≤ c ∧ l.length ≤ 140737488351232 ∧ Reads W W.heap.size 1 A l.length (l.map iv) := by
 rcases open_ints Tryz.underlying45 Tryz.underlying3 cells_int h with ⟨hcs, _⟩ | ⟨a, len, cap, zs, hcs, _, hl, _, hz, hxe, hc, _⟩
 ·exact ⟨[], none, 0, hcs, by simp, by simp, Reads.none_⟩
 ·simp only [if_true] at hz
  have hm : cap ≤ 140737488351232 := by
   rw [hxe] at hfit
   have := (hfit.slice Tryz.underlying45).1
   rw [bytes_int] at this
   simp [lits] at this
   omega
  have hlen : (zs.take len).length = len := by rw [List.length_take]; omega
  refine ⟨zs.take len, some a, cap, by rw [hcs, hlen], by omega, by omega, reads_of (by simp) (by decide) ?_⟩
  intro j u hu
  rw [List.getElem?_map] at hu
  obtain ⟨z, hz1, rfl⟩ := Option.map_eq_some_iff.1 hu
  have hj : j < (zs.take len).length := (List.getElem?_eq_some_iff.1 hz1).1
  rw [hlen] at hj
  rw [hc j (by omega)]
  rw [List.getElem?_take_of_lt hj] at hz1
  simp [List.getD, hz1]
theorem read_strs {n : Nat} {cs : List Value} {x : DataW H × List MemPlace} (hfit : Fit 47 x.1) (h : DataW.trod enc Tryz.prog W 0 (fun _ => true) true n 47 cs = some x) :
  ∃ (l : List ByteArray) (A : Option Addr) (c : Nat), cs = [.slice A l.length c] ∧ l.length ≤ c ∧ l.length ≤ 140737488351232 ∧ Reads W W.heap.size 1 A l.length (l.map sv) ∧ ∀ s ∈ l, Fits s := by
 rcases open_strs Tryz.underlying47 Tryz.underlying9 cells_str h with ⟨hcs, _⟩ | ⟨a, len, cap, m, Sx, hcs, _, hl, _, hm, hxe, hi⟩
 ·exact ⟨[], none, 0, hcs, by simp, by simp, Reads.none_, fun s hs => by cases hs⟩
 ·simp only [if_true] at hm
  rw [hxe] at hfit
  obtain ⟨hw, hf⟩ := hfit.slice Tryz.underlying47
  rw [bytes_str] at hw
  simp at hw
  have hlen : ((List.range len).map Sx).length = len := by simp
  refine ⟨(List.range len).map Sx, some a, cap, by rw [hcs, hlen], by omega, by omega, reads_of (by simp) (by decide) ?_, ?_⟩
  ·intro j u hu
   rw [List.getElem?_map, List.getElem?_map] at hu
   obtain ⟨z, hz1, rfl⟩ := Option.map_eq_some_iff.1 hu
   obtain ⟨q, hq, rfl⟩ := Option.map_eq_some_iff.1 hz1
   have hj : j < len := by have := (List.getElem?_eq_some_iff.1 hq).1; simpa using this
   rw [List.getElem?_range hj] at hq
   injection hq with hq
   subst hq
   exact (hi j (by omega)).1
  ·intro s hs
   obtain ⟨i, hi2, rfl⟩ := List.mem_map.1 hs
   exact Fit.str (hf _ (List.mem_map.2 ⟨i, hi2, rfl⟩))
def sOf : Value → ByteArray
 | .string s => s
 | _ => nos
def nOf : Value → Int
 | .int _ n => n
 | _ => 0
theorem wv_at (f : Nat → ByteArray × Int) (len j : Nat) (u : Value) (h : (wv ((List.range len).map f))[j]? = some u) : ∃ i, i < len ∧ ((j = i * 2 ∧ u = .string (f i).1) ∨ (j = i * 2 + 1 ∧ u = iz (f i).2)) := by
 have hj : j < (wv ((List.range len).map f)).length := (List.getElem?_eq_some_iff.1 h).1
 rw [wv_length] at hj
 simp at hj
 have hi : j / 2 < len := by omega
 refine ⟨j / 2, hi, ?_⟩
 obtain ⟨g0, g1⟩ := wv_get ((List.range len).map f) (j / 2) (f (j / 2)) (by rw [List.getElem?_map, List.getElem?_range hi]; rfl)
 rcases Nat.mod_two_eq_zero_or_one j with e | e
 ·left
  have : j = j / 2 * 2 + 0 := by omega
  rw [this, g0] at h
  injection h with h
  exact ⟨by omega, h.symm⟩
 ·right
  have : j = j / 2 * 2 + 1 := by omega
  rw [this, g1] at h
  injection h with h
  exact ⟨by omega, h.symm⟩
theorem read_wishes {n : Nat} {cs : List Value} {x : DataW H × List MemPlace} (hfit : Fit 46 x.1) (h : DataW.trod enc Tryz.prog W 0 (fun _ => true) true n 46 cs = some x) :
  ∃ (l : List (ByteArray × Int)) (A : Option Addr) (c : Nat), cs = [.slice A l.length c] ∧ l.length ≤ c ∧ l.length ≤ 140737488351232 ∧ Reads W W.heap.size 2 A l.length (wv l) ∧ ∀ s ∈ l, Fits s.1 := by
 rcases open_slice_pairs Tryz.underlying46 Tryz.underlying161 cells_wish rfl rfl cells_str cells_int h with ⟨hcs, _⟩ | ⟨a, len, cap, m, k, V0, V1, D0, D1, P0, P1, hcs, _, hl, _, hm, hxe, hi⟩
 ·exact ⟨[], none, 0, hcs, by simp, by simp, Reads.none_, fun s hs => by cases hs⟩
 ·simp only [if_true] at hm
  rw [hxe] at hfit
  obtain ⟨hw, hf⟩ := hfit.slice Tryz.underlying46
  rw [bytes_wish] at hw
  simp at hw
  have each : ∀ i, i < m → V0 i = .string (sOf (V0 i)) ∧ V1 i = iz (nOf (V1 i)) ∧ D0 i = .lit (.string (sOf (V0 i)).data.toList) := by
   intro i hi2
   obtain ⟨_, _, t0, t1⟩ := hi i hi2
   obtain ⟨s, e0, x0, _⟩ := DataW.trod_string Tryz.underlying9 t0
   obtain ⟨z, e1, _, _⟩ := DataW.trod_int Tryz.underlying3 t1
   simp only [List.cons.injEq, and_true] at e0 e1
   simp only [Prod.mk.injEq] at x0
   rw [e0, e1, x0.1]
   exact ⟨rfl, rfl, rfl⟩
  have hlen : ((List.range len).map fun i => (sOf (V0 i), nOf (V1 i))).length = len := by simp
  refine ⟨(List.range len).map fun i => (sOf (V0 i), nOf (V1 i)), some a, cap, by rw [hcs, hlen], by omega, by omega, reads_of (wv_length _) (by decide) ?_, ?_⟩
  ·intro j u hu
   obtain ⟨i, hi2, ⟨rfl, rfl⟩ | ⟨rfl, rfl⟩⟩ := wv_at _ _ _ _ hu
   ·rw [← (each i (by omega)).1]; exact (hi i (by omega)).1
   ·rw [← (each i (by omega)).2.1]; exact (hi i (by omega)).2.1
  ·intro s hs
   obtain ⟨i, hi2, rfl⟩ := List.mem_map.1 hs
   have hi3 : i < len := by simpa using hi2
   have hd := hf _ (List.mem_map.2 ⟨i, hi2, rfl⟩)
   rw [(each i (by omega)).2.2] at hd
   refine Fit.str (H := H) fun n hn => hd n ?_
   have hw2 : DataW.weights Tryz.prog 161 (DataW.agg [DataW.lit (.string (sOf (V0 i)).data.toList), D1 i]) = DataW.weightsEach Tryz.prog [9, 3] [DataW.lit (.string (sOf (V0 i)).data.toList), D1 i] := by
    simp [DataW.weights, Tryz.underlying161]
   rw [hw2]
   exact DataW.weights_mem_each (j := 0) rfl rfl n hn
theorem read_mq {n : Nat} {cs : List Value} {x : DataW H × List MemPlace} (hlen : cs.length = 24) (hfit : Fit 49 x.1) (h : DataW.trod enc Tryz.prog W 0 (fun _ => true) true n 49 cs = some x) :
  ∃ (m : Mq) (vc vw vf : Value), cs = mqCells m vc vw vf ∧ MqL W W.heap.size m vc vw vf ∧ MqFit m := by
 match cs, hlen with
 | [k0, k1, k2, k3, k4, k5, k6, k7, k8, k9, k10, k11, k12, k13, k14, k15, k16, k17, k18, k19, k20, k21, k22, k23], _ =>
  obtain ⟨ysM, mM, _, exM, _, ylM, hfM⟩ := DataW.trod_struct Tryz.underlying49 h
  rw [exM] at hfit
  have fM_0 := hfM 0 _ rfl
  simp only [List.getElem_toArray, List.getElem_cons_zero, cells_int, List.drop_zero, List.take_succ_cons, List.take_zero] at fM_0
  rw [List.getElem?_eq_getElem (by rw [ylM]; decide)] at fM_0
  obtain ⟨kind, e_kind, _, _⟩ := DataW.trod_int Tryz.underlying3 fM_0
  simp only [List.cons.injEq, and_true] at e_kind
  subst e_kind
  have fM_1 := hfM 1 _ rfl
  simp only [List.getElem_toArray, List.getElem_cons_zero, List.getElem_cons_succ, cells_str, List.drop_zero, List.take_succ_cons, List.take_zero, List.drop_succ_cons] at fM_1
  rw [List.getElem?_eq_getElem (by rw [ylM]; decide)] at fM_1
  have gfM_1 := Fit.struct hfit Tryz.underlying49 1 _ rfl _ (List.getElem?_eq_getElem (by rw [ylM]; decide))
  obtain ⟨client, e_client, t_client⟩ := read_str gfM_1 fM_1
  simp only [List.cons.injEq, and_true] at e_client
  subst e_client
  have fM_2 := hfM 2 _ rfl
  simp only [List.getElem_toArray, List.getElem_cons_zero, List.getElem_cons_succ, cells_bool, List.drop_zero, List.take_succ_cons, List.take_zero, List.drop_succ_cons] at fM_2
  rw [List.getElem?_eq_getElem (by rw [ylM]; decide)] at fM_2
  obtain ⟨clean, e_clean, _⟩ := DataW.trod_bool Tryz.underlying4 fM_2
  simp only [List.cons.injEq, and_true] at e_clean
  subst e_clean
  have fM_3 := hfM 3 _ rfl
  simp only [List.getElem_toArray, List.getElem_cons_zero, List.getElem_cons_succ, cells_int, List.drop_zero, List.take_succ_cons, List.take_zero, List.drop_succ_cons] at fM_3
  rw [List.getElem?_eq_getElem (by rw [ylM]; decide)] at fM_3
  obtain ⟨keep, e_keep, _, _⟩ := DataW.trod_int Tryz.underlying3 fM_3
  simp only [List.cons.injEq, and_true] at e_keep
  subst e_keep
  have fM_4 := hfM 4 _ rfl
  simp only [List.getElem_toArray, List.getElem_cons_zero, List.getElem_cons_succ, cells_will, List.drop_zero, List.take_succ_cons, List.take_zero, List.drop_succ_cons] at fM_4
  rw [List.getElem?_eq_getElem (by rw [ylM]; decide)] at fM_4
  have gfM_4 := Fit.struct hfit Tryz.underlying49 4 _ rfl _ (List.getElem?_eq_getElem (by rw [ylM]; decide))
  obtain ⟨ysW, mW, _, exW, _, ylW, hfW⟩ := DataW.trod_struct Tryz.underlying44 fM_4
  rw [exW] at gfM_4
  have fW_0 := hfW 0 _ rfl
  simp only [List.getElem_toArray, List.getElem_cons_zero, cells_bool, List.drop_zero, List.take_succ_cons, List.take_zero] at fW_0
  rw [List.getElem?_eq_getElem (by rw [ylW]; decide)] at fW_0
  obtain ⟨won, e_won, _⟩ := DataW.trod_bool Tryz.underlying4 fW_0
  simp only [List.cons.injEq, and_true] at e_won
  subst e_won
  have fW_1 := hfW 1 _ rfl
  simp only [List.getElem_toArray, List.getElem_cons_zero, List.getElem_cons_succ, cells_str, List.drop_zero, List.take_succ_cons, List.take_zero, List.drop_succ_cons] at fW_1
  rw [List.getElem?_eq_getElem (by rw [ylW]; decide)] at fW_1
  have gfW_1 := Fit.struct gfM_4 Tryz.underlying44 1 _ rfl _ (List.getElem?_eq_getElem (by rw [ylW]; decide))
  obtain ⟨wt, e_wt, t_wt⟩ := read_str gfW_1 fW_1
  simp only [List.cons.injEq, and_true] at e_wt
  subst e_wt
  have fW_2 := hfW 2 _ rfl
  simp only [List.getElem_toArray, List.getElem_cons_zero, List.getElem_cons_succ, cells_str, List.drop_zero, List.take_succ_cons, List.take_zero, List.drop_succ_cons] at fW_2
  rw [List.getElem?_eq_getElem (by rw [ylW]; decide)] at fW_2
  have gfW_2 := Fit.struct gfM_4 Tryz.underlying44 2 _ rfl _ (List.getElem?_eq_getElem (by rw [ylW]; decide))
  obtain ⟨wp, e_wp, t_wp⟩ := read_str gfW_2 fW_2
  simp only [List.cons.injEq, and_true] at e_wp
  subst e_wp
  have fW_3 := hfW 3 _ rfl
  simp only [List.getElem_toArray, List.getElem_cons_zero, List.getElem_cons_succ, cells_int, List.drop_zero, List.take_succ_cons, List.take_zero, List.drop_succ_cons] at fW_3
  rw [List.getElem?_eq_getElem (by rw [ylW]; decide)] at fW_3
  obtain ⟨wq, e_wq, _, _⟩ := DataW.trod_int Tryz.underlying3 fW_3
  simp only [List.cons.injEq, and_true] at e_wq
  subst e_wq
  have fW_4 := hfW 4 _ rfl
  simp only [List.getElem_toArray, List.getElem_cons_zero, List.getElem_cons_succ, cells_bool, List.drop_zero, List.take_succ_cons, List.take_zero, List.drop_succ_cons] at fW_4
  rw [List.getElem?_eq_getElem (by rw [ylW]; decide)] at fW_4
  obtain ⟨wr, e_wr, _⟩ := DataW.trod_bool Tryz.underlying4 fW_4
  simp only [List.cons.injEq, and_true] at e_wr
  subst e_wr
  have fM_5 := hfM 5 _ rfl
  simp only [List.getElem_toArray, List.getElem_cons_zero, List.getElem_cons_succ, cells_str, List.drop_zero, List.take_succ_cons, List.take_zero, List.drop_succ_cons] at fM_5
  rw [List.getElem?_eq_getElem (by rw [ylM]; decide)] at fM_5
  have gfM_5 := Fit.struct hfit Tryz.underlying49 5 _ rfl _ (List.getElem?_eq_getElem (by rw [ylM]; decide))
  obtain ⟨user, e_user, t_user⟩ := read_str gfM_5 fM_5
  simp only [List.cons.injEq, and_true] at e_user
  subst e_user
  have fM_6 := hfM 6 _ rfl
  simp only [List.getElem_toArray, List.getElem_cons_zero, List.getElem_cons_succ, cells_bool, List.drop_zero, List.take_succ_cons, List.take_zero, List.drop_succ_cons] at fM_6
  rw [List.getElem?_eq_getElem (by rw [ylM]; decide)] at fM_6
  obtain ⟨hu, e_hu, _⟩ := DataW.trod_bool Tryz.underlying4 fM_6
  simp only [List.cons.injEq, and_true] at e_hu
  subst e_hu
  have fM_7 := hfM 7 _ rfl
  simp only [List.getElem_toArray, List.getElem_cons_zero, List.getElem_cons_succ, cells_str, List.drop_zero, List.take_succ_cons, List.take_zero, List.drop_succ_cons] at fM_7
  rw [List.getElem?_eq_getElem (by rw [ylM]; decide)] at fM_7
  have gfM_7 := Fit.struct hfit Tryz.underlying49 7 _ rfl _ (List.getElem?_eq_getElem (by rw [ylM]; decide))
  obtain ⟨pass, e_pass, t_pass⟩ := read_str gfM_7 fM_7
  simp only [List.cons.injEq, and_true] at e_pass
  subst e_pass
  have fM_8 := hfM 8 _ rfl
  simp only [List.getElem_toArray, List.getElem_cons_zero, List.getElem_cons_succ, cells_bool, List.drop_zero, List.take_succ_cons, List.take_zero, List.drop_succ_cons] at fM_8
  rw [List.getElem?_eq_getElem (by rw [ylM]; decide)] at fM_8
  obtain ⟨hp, e_hp, _⟩ := DataW.trod_bool Tryz.underlying4 fM_8
  simp only [List.cons.injEq, and_true] at e_hp
  subst e_hp
  have fM_9 := hfM 9 _ rfl
  simp only [List.getElem_toArray, List.getElem_cons_zero, List.getElem_cons_succ, cells_bool, List.drop_zero, List.take_succ_cons, List.take_zero, List.drop_succ_cons] at fM_9
  rw [List.getElem?_eq_getElem (by rw [ylM]; decide)] at fM_9
  obtain ⟨present, e_present, _⟩ := DataW.trod_bool Tryz.underlying4 fM_9
  simp only [List.cons.injEq, and_true] at e_present
  subst e_present
  have fM_10 := hfM 10 _ rfl
  simp only [List.getElem_toArray, List.getElem_cons_zero, List.getElem_cons_succ, cells_int, List.drop_zero, List.take_succ_cons, List.take_zero, List.drop_succ_cons] at fM_10
  rw [List.getElem?_eq_getElem (by rw [ylM]; decide)] at fM_10
  obtain ⟨code, e_code, _, _⟩ := DataW.trod_int Tryz.underlying3 fM_10
  simp only [List.cons.injEq, and_true] at e_code
  subst e_code
  have fM_11 := hfM 11 _ rfl
  simp only [List.getElem_toArray, List.getElem_cons_zero, List.getElem_cons_succ, cells_ints, List.drop_zero, List.take_succ_cons, List.take_zero, List.drop_succ_cons] at fM_11
  rw [List.getElem?_eq_getElem (by rw [ylM]; decide)] at fM_11
  have gfM_11 := Fit.struct hfit Tryz.underlying49 11 _ rfl _ (List.getElem?_eq_getElem (by rw [ylM]; decide))
  obtain ⟨codes, A1, c1, e_codes, l1, b1, r1⟩ := read_ints gfM_11 fM_11
  simp only [List.cons.injEq, and_true] at e_codes
  subst e_codes
  have fM_12 := hfM 12 _ rfl
  simp only [List.getElem_toArray, List.getElem_cons_zero, List.getElem_cons_succ, cells_bool, List.drop_zero, List.take_succ_cons, List.take_zero, List.drop_succ_cons] at fM_12
  rw [List.getElem?_eq_getElem (by rw [ylM]; decide)] at fM_12
  obtain ⟨dup, e_dup, _⟩ := DataW.trod_bool Tryz.underlying4 fM_12
  simp only [List.cons.injEq, and_true] at e_dup
  subst e_dup
  have fM_13 := hfM 13 _ rfl
  simp only [List.getElem_toArray, List.getElem_cons_zero, List.getElem_cons_succ, cells_int, List.drop_zero, List.take_succ_cons, List.take_zero, List.drop_succ_cons] at fM_13
  rw [List.getElem?_eq_getElem (by rw [ylM]; decide)] at fM_13
  obtain ⟨qos, e_qos, _, _⟩ := DataW.trod_int Tryz.underlying3 fM_13
  simp only [List.cons.injEq, and_true] at e_qos
  subst e_qos
  have fM_14 := hfM 14 _ rfl
  simp only [List.getElem_toArray, List.getElem_cons_zero, List.getElem_cons_succ, cells_bool, List.drop_zero, List.take_succ_cons, List.take_zero, List.drop_succ_cons] at fM_14
  rw [List.getElem?_eq_getElem (by rw [ylM]; decide)] at fM_14
  obtain ⟨retain, e_retain, _⟩ := DataW.trod_bool Tryz.underlying4 fM_14
  simp only [List.cons.injEq, and_true] at e_retain
  subst e_retain
  have fM_15 := hfM 15 _ rfl
  simp only [List.getElem_toArray, List.getElem_cons_zero, List.getElem_cons_succ, cells_str, List.drop_zero, List.take_succ_cons, List.take_zero, List.drop_succ_cons] at fM_15
  rw [List.getElem?_eq_getElem (by rw [ylM]; decide)] at fM_15
  have gfM_15 := Fit.struct hfit Tryz.underlying49 15 _ rfl _ (List.getElem?_eq_getElem (by rw [ylM]; decide))
  obtain ⟨topic, e_topic, t_topic⟩ := read_str gfM_15 fM_15
  simp only [List.cons.injEq, and_true] at e_topic
  subst e_topic
  have fM_16 := hfM 16 _ rfl
  simp only [List.getElem_toArray, List.getElem_cons_zero, List.getElem_cons_succ, cells_int, List.drop_zero, List.take_succ_cons, List.take_zero, List.drop_succ_cons] at fM_16
  rw [List.getElem?_eq_getElem (by rw [ylM]; decide)] at fM_16
  obtain ⟨id, e_id, _, _⟩ := DataW.trod_int Tryz.underlying3 fM_16
  simp only [List.cons.injEq, and_true] at e_id
  subst e_id
  have fM_17 := hfM 17 _ rfl
  simp only [List.getElem_toArray, List.getElem_cons_zero, List.getElem_cons_succ, cells_str, List.drop_zero, List.take_succ_cons, List.take_zero, List.drop_succ_cons] at fM_17
  rw [List.getElem?_eq_getElem (by rw [ylM]; decide)] at fM_17
  have gfM_17 := Fit.struct hfit Tryz.underlying49 17 _ rfl _ (List.getElem?_eq_getElem (by rw [ylM]; decide))
  obtain ⟨payload, e_payload, t_payload⟩ := read_str gfM_17 fM_17
  simp only [List.cons.injEq, and_true] at e_payload
  subst e_payload
  have fM_18 := hfM 18 _ rfl
  simp only [List.getElem_toArray, List.getElem_cons_zero, List.getElem_cons_succ, cells_wishes, List.drop_zero, List.take_succ_cons, List.take_zero, List.drop_succ_cons] at fM_18
  rw [List.getElem?_eq_getElem (by rw [ylM]; decide)] at fM_18
  have gfM_18 := Fit.struct hfit Tryz.underlying49 18 _ rfl _ (List.getElem?_eq_getElem (by rw [ylM]; decide))
  obtain ⟨wishes, A2, c2, e_wishes, l2, b2, r2, t_wishes⟩ := read_wishes gfM_18 fM_18
  simp only [List.cons.injEq, and_true] at e_wishes
  subst e_wishes
  have fM_19 := hfM 19 _ rfl
  simp only [List.getElem_toArray, List.getElem_cons_zero, List.getElem_cons_succ, cells_strs, List.drop_zero, List.take_succ_cons, List.take_zero, List.drop_succ_cons] at fM_19
  rw [List.getElem?_eq_getElem (by rw [ylM]; decide)] at fM_19
  have gfM_19 := Fit.struct hfit Tryz.underlying49 19 _ rfl _ (List.getElem?_eq_getElem (by rw [ylM]; decide))
  obtain ⟨filters, A3, c3, e_filters, l3, b3, r3, t_filters⟩ := read_strs gfM_19 fM_19
  simp only [List.cons.injEq, and_true] at e_filters
  subst e_filters
  exact ⟨{ kind := kind, client := client, clean := clean, keep := keep, won := won, wt := wt, wp := wp, wq := wq, wr := wr, user := user, hu := hu, pass := pass, hp := hp, present := present, code := code, codes := codes, dup := dup, qos := qos, retain := retain, topic := topic, id := id, payload := payload, wishes := wishes, filters := filters }, _, _, _, rfl, ⟨A1, c1, A2, c2, A3, c3, rfl, rfl, rfl, l1, l2, l3, b1, b2, b3, r1, r2, r3⟩, ⟨t_client, t_wt, t_wp, t_user, t_pass, t_topic, t_payload, t_wishes, t_filters⟩⟩
end
end
section
open Go.RowKit
theorem refWishes (l : List (ByteArray × Int)) (n : Nat) (hl : l.length = n) (hfit : ∀ s ∈ l, Fits s.1) (A : Option Addr) (c : Nat) (hn : n ≤ 140737488351232) (w : World) (hT : Wd w) (hr : Reads w w.heap.size 2 A n (wv l)) :
  Calls Tryz.prog 75 #[.slice A n c] w fun e w' => e = .returned (.bool (wishesOk l)) ∧ Below w.heap.size w w' := by
 have HF := Lib.hid (show wishesAll (l.drop 0) = wishesAll l from rfl)
 have KW := Lib.hid (fun x w1 => refNumB x 2 w1)
 have HO := Lib.hid (show wishesOk l = (wishesAll l && inRB n 1 8) by unfold wishesOk; rw [hl])
 generalize wishesOk l = Z at *
 have HL := Lib.hid hl
 have HFit := Lib.hid hfit
 have HR := Lib.hid hr
 have HT := Lib.hid hT
 clear hl hfit hr hT
 by_cases h1 : (n : Int) < 1
 ·have HP : Hid (inRB n 1 8 = false) := Lib.hid (by unfold inRB; rw [decide_eq_false (by omega)]; rfl)
  go_enter Tryz.func75, Tryz.ntmps75
  go_wp2
  go_ret
  exact ⟨by rw [HO.out, HP.out, Bool.and_false]; rfl, Below.refl _ _⟩
 by_cases h8 : (8 : Int) < n
 ·have HP : Hid (inRB n 1 8 = false) := Lib.hid (by unfold inRB; rw [decide_eq_false (show ¬ (n : Int) ≤ 8 by omega), Bool.and_false])
  go_enter Tryz.func75, Tryz.ntmps75
  go_wp2
  go_ret
  exact ⟨by rw [HO.out, HP.out, Bool.and_false]; rfl, Below.refl _ _⟩
 have HP : Hid (inRB n 1 8 = true) := inRB_iff.2 ⟨by omega, by omega⟩
 go_enter Tryz.func75, Tryz.ntmps75
 go_wp2
 go_loopw [3] (fun i wr => ∃ k : Nat, i = .int .i64 k ∧ k ≤ n ∧ Below w.heap.size w wr ∧ Hid (wishesAll (l.drop k) = wishesAll l)) (fun i _ => n - (intOf i).toNat)
 case atStart => exact ⟨0, rfl, Nat.zero_le _, Below.refl _ _, HF⟩
 case round =>
  obtain ⟨k, rfl, hk, hb, hf⟩ := hrel
  by_cases hlt : k < n
  ·obtain ⟨b, o, rfl, hblt, hcv⟩ := (HR.out.below hb).get2 hlt
   obtain ⟨x, hx⟩ : ∃ x, l[k]? = some x := ⟨l[k]'(by rw [HL.out]; omega), List.getElem?_eq_getElem _⟩
   obtain ⟨g0, g1⟩ := wv_get l k x hx
   have cv0 := hcv 0 _ (by omega) g0
   have cv1 := hcv 1 _ (by omega) g1
   rw [Nat.add_zero] at cv0
   have hd := drop_of hx
   have hf2 := hf.out
   rw [hd, wishesAll] at hf2
   have HB := Lib.hid hb
   have K := Lib.hid (refTextV x.1 (HFit.out x (List.mem_of_getElem? hx)) 1 64 wr (HT.out.below HB.out))
   have hlt2 : b < wr.heap.size := Nat.lt_of_lt_of_le hblt hb.size
   have HLT2 := Lib.hid hlt2
   have CV1 := Lib.hid cv1
   have K2 := Lib.hid (fun w1 => KW.out x.2 w1)
   clear cv1 hlt2 hblt
   cases h1 : textOk x.1 1 64 with
   | true =>
    rw [h1] at K hf2
    cases h2 : inRB x.2 0 2 with
    | true =>
     rw [h2] at K2 hf2
     have HQ : Hid (wishesAll (l.drop (k + 1)) = wishesAll l) := hf2
     clear hx hd hf2 hf hb h1 h2 g0 g1 hcv
     go_wp2_with (first
      | (go_at_call 71; (with_reducible refine K.out.mono ?_); rintro _ w2 ⟨rfl, hb2⟩; have HB2 := Lib.hid (HB.out.trans (hb2.mono HB.out.size)); have c1 := (cellB hb2 HLT2.out).trans CV1.out; clear hb2)
      | (go_at_call 24; (with_reducible refine (K2.out _).mono ?_); rintro _ w3 ⟨rfl, rfl⟩))
     go_roundw
     case rel => exact ⟨k + 1, by go_num, by omega, HB2.out, HQ⟩
     case measure => simp [intOf]; omega
    | false =>
     rw [h2] at K2 hf2
     have HQ : Hid (wishesAll l = false) := hf2.symm
     clear hx hd hf2 hf hb h1 h2 g0 g1 hcv
     go_wp2_with (first
      | (go_at_call 71; (with_reducible refine K.out.mono ?_); rintro _ w2 ⟨rfl, hb2⟩; have HB2 := Lib.hid (HB.out.trans (hb2.mono HB.out.size)); have c1 := (cellB hb2 HLT2.out).trans CV1.out; clear hb2)
      | (go_at_call 24; (with_reducible refine (K2.out _).mono ?_); rintro _ w3 ⟨rfl, rfl⟩))
     go_ret
     exact ⟨by rw [HO.out, HQ.out]; rfl, HB2.out⟩
   | false =>
    rw [h1] at K hf2
    have HQ : Hid (wishesAll l = false) := hf2.symm
    clear hx hd hf2 hf hb h1 g0 g1 hcv
    go_wp2_with (go_at_call 71; (with_reducible refine K.out.mono ?_); rintro _ w2 ⟨rfl, hb2⟩; have HB2 := Lib.hid (HB.out.trans (hb2.mono HB.out.size)); clear hb2)
    go_ret
    exact ⟨by rw [HO.out, HQ.out]; rfl, HB2.out⟩
  ·have HQ : Hid (wishesAll l = true) := by
    have := hf.out
    rw [List.drop_eq_nil_of_le (by rw [HL.out]; omega)] at this
    exact this.symm
   clear hf
   go_wp2
   go_ret
   exact ⟨by rw [HO.out, HP.out, HQ.out]; rfl, hb⟩
end
section
open Go.RowKit
theorem conn7 (a b c d e f g : Bool) : ((((((a && b) && c) && d) && e) && f) && g) = (a && (b && (c && (d && (f && (e && g)))))) := by
 cases a <;> cases b <;> cases c <;> cases d <;> cases e <;> cases f <;> cases g <;> rfl
theorem same_symm (a b : Mq) : Mq.same a b = Mq.same b a := by
 rw [Bool.eq_iff_iff, same_iff, same_iff]
 exact eq_comm
theorem pub_zero (m : Mq) (h : (m.qos == 0) = true) : publishOk m = ((((((textOk m.topic 1 64 && plainOf (sb m.topic)) && inRB m.qos 0 2) && decide ((m.payload.size : Int) ≤ 128)) && !m.dup)) && (m.id == 0)) := by
 have h0 : m.qos = 0 := by simpa using h
 unfold publishOk topicOk
 rw [h0]
 cases textOk m.topic 1 64 <;> cases plainOf (sb m.topic) <;> cases decide ((m.payload.size : Int) ≤ 128) <;> cases m.dup <;> cases (m.id == 0) <;> rfl
theorem pub_more (m : Mq) (h : (m.qos == 0) = false) : publishOk m = ((((textOk m.topic 1 64 && plainOf (sb m.topic)) && inRB m.qos 0 2) && decide ((m.payload.size : Int) ≤ 128)) && inRB m.id 1 65535) := by
 have h0 : ¬ m.qos = 0 := by simpa using h
 unfold publishOk topicOk
 cases hq : inRB m.qos 0 2 with
 | false => cases textOk m.topic 1 64 <;> cases plainOf (sb m.topic) <;> rfl
 | true =>
  have := inRB_iff.1 hq
  have h1 : decide (0 < m.qos) = true := by simp; omega
  rw [h, h1]
  cases textOk m.topic 1 64 <;> cases plainOf (sb m.topic) <;> cases decide ((m.payload.size : Int) ≤ 128) <;> cases inRB m.id 1 65535 <;> rfl
theorem list_and (a : Bool) (n : Nat) (c : Bool) : (((a && decide ((1 : Int) ≤ n)) && decide ((n : Int) ≤ 8)) && c) = (a && (c && inRB n 1 8)) := by
 unfold inRB
 cases a <;> cases decide ((1 : Int) ≤ n) <;> cases decide ((n : Int) ≤ 8) <;> cases c <;> rfl
theorem codesAll_snoc (l : List Int) (x : Int) : codesAll (l ++ [x]) = (codesAll l && (inRB x 0 2 || (x == 128))) := by
 induction l with
 | nil => simp [codesAll]
 | cons y l ih => rw [List.cons_append, codesAll, codesAll, ih, Bool.and_assoc]
theorem filtersAll_snoc (l : List ByteArray) (x : ByteArray) : filtersAll (l ++ [x]) = (filtersAll l && textOk x 1 64) := by
 induction l with
 | nil => simp [filtersAll]
 | cons y l ih => rw [List.cons_append, filtersAll, filtersAll, ih, Bool.and_assoc]
theorem refMay (m : Mq) (vc vw vf : Value) (w : World) (hL : MqL w w.heap.size m vc vw vf) (hF : MqFit m) (hW : Wd w) :
  Calls Tryz.prog 34 #[.agg (mqCells m vc vw vf).toArray] w fun e w' => e = .returned (.bool (mayBb m)) ∧ Below w.heap.size w w' := by
 obtain ⟨A1, c1, A2, c2, A3, c3, rfl, rfl, rfl, l1, l2, l3, k1', k2', k3', r1, r2, r3⟩ := id hL
 go_enter Tryz.func34, Tryz.ntmps34
 refine Has.start 289 [(0, .agg (mqCells m (.slice A1 m.codes.length c1) (.slice A2 m.wishes.length c2) (.slice A3 m.filters.length c3)).toArray)] rfl rfl ⟨rfl, trivial⟩ ?_
 intro a0 H0
 have O0 := Own.start w
 refine rl ?_
 refine H0.bx O0 1 fun a2 w1 O1 H2 => nt ?_
 refine H2.rg 1 fun a3 H3 => ?_
 refine H3.ld 0 (O1.li 0 0) fun a4 H4 => ?_
 refine H4.any (w' := w1) gz rfl rfl (.agg (mqCells (mq0 m.kind) nilV nilV nilV).toArray) (by intro cs b h; cases h) (by kernel_rfl) (by kernel_rfl) ?_
 intro a5 H5
 refine H5.al O1 0 zero_mq fun a6 w2 O2 H6 => ?_
 refine H6.st O2 0 0 (hi := size_mq) fun a7 w3 O3 H7 => nt ?_
 refine H7.rg 1 fun a8 H8 => nt ?_
 refine wp_seq_join (fun a w' => ∃ vc' vw' vf', Has a 289 [(1, pz w.heap.size), (3, pz w1.heap.size), (4, .bool (okOf m))] ∧ MqL w' w'.heap.size (onlyOf m) vc' vw' vf' ∧ Own w w.heap.size [(w1.heap.size, mqCells (onlyOf m) vc' vw' vf'), (w.heap.size, (mqCells m (.slice A1 m.codes.length c1) (.slice A2 m.wishes.length c2) (.slice A3 m.filters.length c3)))] w') ?_ ?_
 ·skip
  refine H8.rg 1 fun a9 H9 => ?_
  refine H9.ld 0 (O3.li 1 0) fun a10 H10 => nt ?_
  refine wp_block ?_
  have hk0 : True := trivial
  obtain ⟨b1, h1⟩ : ∃ b, (m.kind == 1) = b := ⟨_, rfl⟩
  cases b1 with
  | true =>
   have k1 : m.kind = 1 := by simpa using h1
   refine rl ?_
   refine H10.bn 1 (eql_iB _ _ _ h1 _ _ _) fun a12 H12 => nt ?_
   refine H12.condT rfl ?_
   have ho : onlyOf m = { mq0 m.kind with client := m.client, clean := m.clean, keep := m.keep, won := m.won, wt := m.wt, wp := m.wp, wq := m.wq, wr := m.wr, user := m.user, hu := m.hu, pass := m.pass, hp := m.hp } := by unfold onlyOf; rw [if_pos k1]
   have hq : okOf m = connectOk m := by unfold okOf; rw [if_pos k1]
   repeat (refine wp_seq ?_)
   refine H12.ds O3 0 [1, 3, 4] rfl [ec 0 14 (.pointer (some ⟨w.heap.size, 1, none⟩)), ec 1 15 (.string m.client), ec 2 16 (.pointer (some ⟨w.heap.size, 2, none⟩)), ec 3 17 (.bool m.clean), ec 4 18 (.pointer (some ⟨w.heap.size, 3, none⟩)), ec 5 19 (iz m.keep), ec 6 20 (.pointer (some ⟨w.heap.size, 4, none⟩)), ec 7 21 (.agg #[.bool m.won, .string m.wt, .string m.wp, iz m.wq, .bool m.wr]), ec 8 22 (.pointer (some ⟨w.heap.size, 9, none⟩)), ec 9 23 (.string m.user), ec 10 24 (.pointer (some ⟨w.heap.size, 10, none⟩)), ec 11 25 (.bool m.hu), ec 12 26 (.pointer (some ⟨w.heap.size, 11, none⟩)), ec 13 27 (.string m.pass), ec 14 28 (.pointer (some ⟨w.heap.size, 12, none⟩)), ec 15 29 (.bool m.hp), ec 16 30 (.pointer (some ⟨w1.heap.size, 1, none⟩)), ec 18 31 (.pointer (some ⟨w1.heap.size, 2, none⟩)), ec 20 32 (.pointer (some ⟨w1.heap.size, 3, none⟩)), ec 22 33 (.pointer (some ⟨w1.heap.size, 4, none⟩)), ec 24 34 (.pointer (some ⟨w1.heap.size, 9, none⟩)), ec 26 35 (.pointer (some ⟨w1.heap.size, 10, none⟩)), ec 28 36 (.pointer (some ⟨w1.heap.size, 11, none⟩)), ec 30 37 (.pointer (some ⟨w1.heap.size, 12, none⟩))] [⟨31, 12, [(.bool m.hp)]⟩, ⟨29, 11, [(.string m.pass)]⟩, ⟨27, 10, [(.bool m.hu)]⟩, ⟨25, 9, [(.string m.user)]⟩, ⟨23, 4, [.bool m.won, .string m.wt, .string m.wp, iz m.wq, .bool m.wr]⟩, ⟨21, 3, [(iz m.keep)]⟩, ⟨19, 2, [(.bool m.clean)]⟩, ⟨17, 1, [(.string m.client)]⟩] rfl rfl ⟨jm, jl fun _ ⟨_, _, h⟩ => load1_s _ _ _ _ ((h.get 1 rfl).get 1 _ rfl), jm, jl fun _ ⟨_, _, h⟩ => load1_b _ _ _ _ ((h.get 1 rfl).get 2 _ rfl), jm, jl fun _ ⟨_, _, h⟩ => load1_i _ _ _ _ ((h.get 1 rfl).get 3 _ rfl), jm, jl fun _ ⟨_, _, h⟩ => load_will _ _ _ _ _ _ _ _ (h.get 1 rfl) rfl rfl rfl rfl rfl, jm, jl fun _ ⟨_, _, h⟩ => load1_s _ _ _ _ ((h.get 1 rfl).get 9 _ rfl), jm, jl fun _ ⟨_, _, h⟩ => load1_b _ _ _ _ ((h.get 1 rfl).get 10 _ rfl), jm, jl fun _ ⟨_, _, h⟩ => load1_s _ _ _ _ ((h.get 1 rfl).get 11 _ rfl), jm, jl fun _ ⟨_, _, h⟩ => load1_b _ _ _ _ ((h.get 1 rfl).get 12 _ rfl), jm, jm, jm, jm, jm, jm, jm, jm, trivial⟩ ⟨q1 fun _ u h f => store1_b _ _ _ u _ h f, q1 fun _ u h f => store1_s _ _ _ u _ h f, q1 fun _ u h f => store1_b _ _ _ u _ h f, q1 fun _ u h f => store1_s _ _ _ u _ h f, q5, q1 fun _ u h f => store1_i _ _ _ u _ h f, q1 fun _ u h f => store1_b _ _ _ u _ h f, q1 fun _ u h f => store1_s _ _ _ u _ h f, trivial⟩ ?_
   intro a13 w4 H13 O4
   have O4 : Own w w.heap.size [(w1.heap.size, (mqCells (onlyOf m) nilV nilV nilV)), (w.heap.size, (mqCells m (.slice A1 m.codes.length c1) (.slice A2 m.wishes.length c2) (.slice A3 m.filters.length c3)))] w4 := by rw [ho]; exact O4
   refine then_normal ?_
   refine rl ?_
   refine wpList_cut 4 (fun a' w' => ∃ b, textOk m.client 0 23 = b ∧ Has a' 289 [(1, pz w.heap.size), (3, pz w1.heap.size), (41, .bool b)] ∧ Own w w.heap.size [(w1.heap.size, (mqCells (onlyOf m) nilV nilV nilV)), (w.heap.size, (mqCells m (.slice A1 m.codes.length c1) (.slice A2 m.wishes.length c2) (.slice A3 m.filters.length c3)))] w') ?_ ?_
   ·skip
    refine H13.ms 1 fun a14 H14 => ?_
    refine H14.ld 0 (O4.ls 1 1) fun a15 H15 => ?_
    refine H15.cl (belowC (refTextV m.client hF.client 0 23 _ (hW.below O4.bel))) ?_
    rintro a16 _ w5 ⟨rfl, hb⟩ H16
    have O5 := O4.call hb
    clear hb
    refine H16.ms 1 fun a17 H17 => ?_
    exact nt ⟨_, by rfl, H17.keep ⟨rfl, rfl, rfl, trivial⟩, O5⟩
   rintro a14 w5 ⟨v41, q41, H14, O5⟩
   refine wpList_cut 5 (fun a' w' => ∃ b, (textOk m.client 0 23 && inRB m.keep 0 65535) = b ∧ Has a' 289 [(1, pz w.heap.size), (3, pz w1.heap.size), (46, .bool b)] ∧ Own w w.heap.size [(w1.heap.size, (mqCells (onlyOf m) nilV nilV nilV)), (w.heap.size, (mqCells m (.slice A1 m.codes.length c1) (.slice A2 m.wishes.length c2) (.slice A3 m.filters.length c3)))] w') ?_ ?_
   ·skip
    cases v41 with
    | false =>
     refine H14.offs 3 rfl ?_
     intro a15 H15
     refine H15.pick gz rfl rfl rfl rfl rfl ?_
     intro a16 H16
     refine H16.ms 1 fun a17 H17 => ?_
     exact nt ⟨_, by rw [q41] <;> rfl, H17.keep ⟨rfl, rfl, rfl, trivial⟩, O5⟩
    | true =>
     refine H14.field (H14.wt rfl rfl rfl) rfl rfl rfl rfl field_3 ?_
     intro a15 H15
     refine H15.load (H15.wt rfl rfl rfl) rfl rfl rfl rfl (load1_i _ _ _ _ ((O5.get 1 rfl).get 3 _ rfl)) ?_
     intro a16 H16
     refine H16.call (H16.wt rfl rfl rfl) rfl rfl rfl rfl (fun _ _ => by kernel_rfl) (quietC (refNumB m.keep 65535 _)) ?_
     rintro a17 _ _ ⟨rfl, rfl⟩ H17
     refine H17.pick gz rfl rfl rfl rfl rfl ?_
     intro a18 H18
     refine H18.ms 1 fun a19 H19 => ?_
     exact nt ⟨_, by rw [q41] <;> rfl, H19.keep ⟨rfl, rfl, rfl, trivial⟩, O5⟩
   rintro a15 w6 ⟨v46, q46, H15, O6⟩
   refine wpList_cut 5 (fun a' w' => ∃ b, ((textOk m.client 0 23 && inRB m.keep 0 65535) && willB2 m.won m.wt m.wp m.wq m.wr) = b ∧ Has a' 289 [(1, pz w.heap.size), (3, pz w1.heap.size), (51, .bool b)] ∧ Own w w.heap.size [(w1.heap.size, (mqCells (onlyOf m) nilV nilV nilV)), (w.heap.size, (mqCells m (.slice A1 m.codes.length c1) (.slice A2 m.wishes.length c2) (.slice A3 m.filters.length c3)))] w') ?_ ?_
   ·skip
    cases v46 with
    | false =>
     refine H15.offs 3 rfl ?_
     intro a16 H16
     refine H16.pick gz rfl rfl rfl rfl rfl ?_
     intro a17 H17
     refine H17.ms 1 fun a18 H18 => ?_
     exact nt ⟨_, by rw [q46] <;> rfl, H18.keep ⟨rfl, rfl, rfl, trivial⟩, O6⟩
    | true =>
     refine H15.field (H15.wt rfl rfl rfl) rfl rfl rfl rfl field_4 ?_
     intro a16 H16
     refine H16.load (H16.wt rfl rfl rfl) rfl rfl rfl rfl (load_will _ _ _ _ _ _ _ _ (O6.get 1 rfl) rfl rfl rfl rfl rfl) ?_
     intro a17 H17
     refine H17.call (H17.wt rfl rfl rfl) rfl rfl rfl rfl (fun _ _ => by kernel_rfl) (belowC (refWillV m.won m.wt m.wp m.wq m.wr hF.wt _ (hW.below O6.bel))) ?_
     rintro a18 _ w7 ⟨rfl, hb⟩ H18
     have O7 := O6.call hb
     clear hb
     refine H18.pick gz rfl rfl rfl rfl rfl ?_
     intro a19 H19
     refine H19.ms 1 fun a20 H20 => ?_
     exact nt ⟨_, by rw [q46] <;> rfl, H20.keep ⟨rfl, rfl, rfl, trivial⟩, O7⟩
   rintro a16 w7 ⟨v51, q51, H16, O7⟩
   refine wpList_cut 5 (fun a' w' => ∃ b, (((textOk m.client 0 23 && inRB m.keep 0 65535) && willB2 m.won m.wt m.wp m.wq m.wr) && textOk m.user 0 64) = b ∧ Has a' 289 [(1, pz w.heap.size), (3, pz w1.heap.size), (56, .bool b)] ∧ Own w w.heap.size [(w1.heap.size, (mqCells (onlyOf m) nilV nilV nilV)), (w.heap.size, (mqCells m (.slice A1 m.codes.length c1) (.slice A2 m.wishes.length c2) (.slice A3 m.filters.length c3)))] w') ?_ ?_
   ·skip
    cases v51 with
    | false =>
     refine H16.offs 3 rfl ?_
     intro a17 H17
     refine H17.pick gz rfl rfl rfl rfl rfl ?_
     intro a18 H18
     refine H18.ms 1 fun a19 H19 => ?_
     exact nt ⟨_, by rw [q51] <;> rfl, H19.keep ⟨rfl, rfl, rfl, trivial⟩, O7⟩
    | true =>
     refine H16.field (H16.wt rfl rfl rfl) rfl rfl rfl rfl field_5 ?_
     intro a17 H17
     refine H17.load (H17.wt rfl rfl rfl) rfl rfl rfl rfl (load1_s _ _ _ _ ((O7.get 1 rfl).get 9 _ rfl)) ?_
     intro a18 H18
     refine H18.call (H18.wt rfl rfl rfl) rfl rfl rfl rfl (fun _ _ => by kernel_rfl) (belowC (refTextV m.user hF.user 0 64 _ (hW.below O7.bel))) ?_
     rintro a19 _ w8 ⟨rfl, hb⟩ H19
     have O8 := O7.call hb
     clear hb
     refine H19.pick gz rfl rfl rfl rfl rfl ?_
     intro a20 H20
     refine H20.ms 1 fun a21 H21 => ?_
     exact nt ⟨_, by rw [q51] <;> rfl, H21.keep ⟨rfl, rfl, rfl, trivial⟩, O8⟩
   rintro a17 w8 ⟨v56, q56, H17, O8⟩
   refine wpList_cut 14 (fun a' w' => ∃ b, ((((textOk m.client 0 23 && inRB m.keep 0 65535) && willB2 m.won m.wt m.wp m.wq m.wr) && textOk m.user 0 64) && (m.hu || (emp m.user && !m.hp))) = b ∧ Has a' 289 [(1, pz w.heap.size), (3, pz w1.heap.size), (70, .bool b)] ∧ Own w w.heap.size [(w1.heap.size, (mqCells (onlyOf m) nilV nilV nilV)), (w.heap.size, (mqCells m (.slice A1 m.codes.length c1) (.slice A2 m.wishes.length c2) (.slice A3 m.filters.length c3)))] w') ?_ ?_
   ·skip
    cases v56 with
    | false =>
     refine H17.offs 12 rfl ?_
     intro a18 H18
     refine H18.pick gz rfl rfl rfl rfl rfl ?_
     intro a19 H19
     refine H19.ms 1 fun a20 H20 => ?_
     exact nt ⟨_, by rw [q56] <;> rfl, H20.keep ⟨rfl, rfl, rfl, trivial⟩, O8⟩
    | true =>
     refine H17.field (H17.wt rfl rfl rfl) rfl rfl rfl rfl field_6 ?_
     intro a18 H18
     refine H18.load (H18.wt rfl rfl rfl) rfl rfl rfl rfl (load1_b _ _ _ _ ((O8.get 1 rfl).get 10 _ rfl)) ?_
     intro a19 H19
     refine H19.move (H19.wt rfl rfl rfl) (.inl rfl) rfl rfl rfl ?_
     intro a20 H20
     obtain ⟨v59, q59⟩ : ∃ b, m.hu = b := ⟨_, rfl⟩
     rw [q59] at H20
     cases v59 with
     | false =>
      refine H20.field (H20.wt rfl rfl rfl) rfl rfl rfl rfl field_5 ?_
      intro a21 H21
      refine H21.load (H21.wt rfl rfl rfl) rfl rfl rfl rfl (load1_s _ _ _ _ ((O8.get 1 rfl).get 9 _ rfl)) ?_
      intro a22 H22
      refine H22.bin (H22.wt rfl rfl rfl) rfl rfl rfl rfl rfl (eql_e _ _ _ _) ?_
      intro a23 H23
      refine H23.move (H23.wt rfl rfl rfl) (.inl rfl) rfl rfl rfl ?_
      intro a24 H24
      obtain ⟨v63, q63⟩ : ∃ b, emp m.user = b := ⟨_, rfl⟩
      rw [q63] at H24
      cases v63 with
      | false =>
       refine H24.offs 3 rfl ?_
       intro a25 H25
       refine H25.pick (H25.wt rfl rfl rfl) rfl rfl rfl rfl rfl ?_
       intro a26 H26
       refine H26.pick (H26.wt rfl rfl rfl) rfl rfl rfl rfl rfl ?_
       intro a27 H27
       refine H27.pick gz rfl rfl rfl rfl rfl ?_
       intro a28 H28
       refine H28.ms 1 fun a29 H29 => ?_
       exact nt ⟨_, by rw [q56, q59, q63] <;> rfl, H29.keep ⟨rfl, rfl, rfl, trivial⟩, O8⟩
      | true =>
       refine H24.field (H24.wt rfl rfl rfl) rfl rfl rfl rfl field_8 ?_
       intro a25 H25
       refine H25.load (H25.wt rfl rfl rfl) rfl rfl rfl rfl (load1_b _ _ _ _ ((O8.get 1 rfl).get 12 _ rfl)) ?_
       intro a26 H26
       refine H26.un (H26.wt rfl rfl rfl) rfl rfl rfl rfl rfl ?_
       intro a27 H27
       refine H27.pick (H27.wt rfl rfl rfl) rfl rfl rfl rfl rfl ?_
       intro a28 H28
       refine H28.pick (H28.wt rfl rfl rfl) rfl rfl rfl rfl rfl ?_
       intro a29 H29
       refine H29.pick gz rfl rfl rfl rfl rfl ?_
       intro a30 H30
       refine H30.ms 1 fun a31 H31 => ?_
       exact nt ⟨_, by rw [q56, q59, q63] <;> rfl, H31.keep ⟨rfl, rfl, rfl, trivial⟩, O8⟩
     | true =>
      refine H20.offs 8 rfl ?_
      intro a21 H21
      refine H21.pick (H21.wt rfl rfl rfl) rfl rfl rfl rfl rfl ?_
      intro a22 H22
      refine H22.pick gz rfl rfl rfl rfl rfl ?_
      intro a23 H23
      refine H23.ms 1 fun a24 H24 => ?_
      exact nt ⟨_, by rw [q56, q59] <;> rfl, H24.keep ⟨rfl, rfl, rfl, trivial⟩, O8⟩
   rintro a18 w9 ⟨v70, q70, H18, O9⟩
   refine wpList_cut 6 (fun a' w' => ∃ b, (((((textOk m.client 0 23 && inRB m.keep 0 65535) && willB2 m.won m.wt m.wp m.wq m.wr) && textOk m.user 0 64) && (m.hu || (emp m.user && !m.hp))) && decide ((m.pass.size : Int) ≤ 64)) = b ∧ Has a' 289 [(1, pz w.heap.size), (3, pz w1.heap.size), (76, .bool b)] ∧ Own w w.heap.size [(w1.heap.size, (mqCells (onlyOf m) nilV nilV nilV)), (w.heap.size, (mqCells m (.slice A1 m.codes.length c1) (.slice A2 m.wishes.length c2) (.slice A3 m.filters.length c3)))] w') ?_ ?_
   ·skip
    cases v70 with
    | false =>
     refine H18.offs 4 rfl ?_
     intro a19 H19
     refine H19.pick gz rfl rfl rfl rfl rfl ?_
     intro a20 H20
     refine H20.ms 1 fun a21 H21 => ?_
     exact nt ⟨_, by rw [q70] <;> rfl, H21.keep ⟨rfl, rfl, rfl, trivial⟩, O9⟩
    | true =>
     refine H18.field (H18.wt rfl rfl rfl) rfl rfl rfl rfl field_7 ?_
     intro a19 H19
     refine H19.load (H19.wt rfl rfl rfl) rfl rfl rfl rfl (load1_s _ _ _ _ ((O9.get 1 rfl).get 11 _ rfl)) ?_
     intro a20 H20
     refine H20.lenS (H20.wt rfl rfl rfl) rfl rfl rfl rfl Tryz.underlying9 ?_
     intro a21 H21
     refine H21.bin (H21.wt rfl rfl rfl) rfl rfl rfl rfl rfl (leq_i _ _ _ rfl _ _ _) ?_
     intro a22 H22
     refine H22.pick gz rfl rfl rfl rfl rfl ?_
     intro a23 H23
     refine H23.ms 1 fun a24 H24 => ?_
     exact nt ⟨_, by rw [q70] <;> rfl, H24.keep ⟨rfl, rfl, rfl, trivial⟩, O9⟩
   rintro a19 w10 ⟨v76, q76, H19, O10⟩
   refine wpList_cut 8 (fun a' w' => ∃ b, ((((((textOk m.client 0 23 && inRB m.keep 0 65535) && willB2 m.won m.wt m.wp m.wq m.wr) && textOk m.user 0 64) && (m.hu || (emp m.user && !m.hp))) && decide ((m.pass.size : Int) ≤ 64)) && (m.hp || emp m.pass)) = b ∧ Has a' 289 [(1, pz w.heap.size), (3, pz w1.heap.size), (84, .bool b)] ∧ Own w w.heap.size [(w1.heap.size, (mqCells (onlyOf m) nilV nilV nilV)), (w.heap.size, (mqCells m (.slice A1 m.codes.length c1) (.slice A2 m.wishes.length c2) (.slice A3 m.filters.length c3)))] w') ?_ ?_
   ·skip
    cases v76 with
    | false =>
     refine H19.offs 7 rfl ?_
     intro a20 H20
     refine H20.pick gz rfl rfl rfl rfl rfl ?_
     intro a21 H21
     exact nt ⟨_, by rw [q76] <;> rfl, H21.keep ⟨rfl, rfl, rfl, trivial⟩, O10⟩
    | true =>
     refine H19.field (H19.wt rfl rfl rfl) rfl rfl rfl rfl field_8 ?_
     intro a20 H20
     refine H20.load (H20.wt rfl rfl rfl) rfl rfl rfl rfl (load1_b _ _ _ _ ((O10.get 1 rfl).get 12 _ rfl)) ?_
     intro a21 H21
     refine H21.move (H21.wt rfl rfl rfl) (.inl rfl) rfl rfl rfl ?_
     intro a22 H22
     obtain ⟨v79, q79⟩ : ∃ b, m.hp = b := ⟨_, rfl⟩
     rw [q79] at H22
     cases v79 with
     | false =>
      refine H22.field (H22.wt rfl rfl rfl) rfl rfl rfl rfl field_7 ?_
      intro a23 H23
      refine H23.load (H23.wt rfl rfl rfl) rfl rfl rfl rfl (load1_s _ _ _ _ ((O10.get 1 rfl).get 11 _ rfl)) ?_
      intro a24 H24
      refine H24.bin (H24.wt rfl rfl rfl) rfl rfl rfl rfl rfl (eql_e _ _ _ _) ?_
      intro a25 H25
      refine H25.pick (H25.wt rfl rfl rfl) rfl rfl rfl rfl rfl ?_
      intro a26 H26
      refine H26.pick gz rfl rfl rfl rfl rfl ?_
      intro a27 H27
      exact nt ⟨_, by rw [q76, q79] <;> rfl, H27.keep ⟨rfl, rfl, rfl, trivial⟩, O10⟩
     | true =>
      refine H22.offs 3 rfl ?_
      intro a23 H23
      refine H23.pick (H23.wt rfl rfl rfl) rfl rfl rfl rfl rfl ?_
      intro a24 H24
      refine H24.pick gz rfl rfl rfl rfl rfl ?_
      intro a25 H25
      exact nt ⟨_, by rw [q76, q79] <;> rfl, H25.keep ⟨rfl, rfl, rfl, trivial⟩, O10⟩
   rintro a20 w11 ⟨v84, q84, H20, O11⟩
   refine H20.ms 1 fun a21 H21 => ?_
   refine wpList_nil ?_
   refine block_normal ?_
   refine then_normal ?_
   exact ⟨nilV, nilV, nilV, (by rw [hq, show connectOk m = v84 from (conn7 _ _ _ _ _ _ _).symm.trans q84]; exact H21.keep ⟨rfl, rfl, rfl, trivial⟩), MqL.nil (by rw [ho] <;> rfl) (by rw [ho] <;> rfl) (by rw [ho] <;> rfl), O11⟩
  | false =>
   have k1 : ¬ m.kind = 1 := by simpa using h1
   refine rl ?_
   refine H10.bn 1 (eql_iB _ _ _ h1 _ _ _) fun a12 H12 => nt ?_
   refine H12.condF rfl ?_
   obtain ⟨b2, h2⟩ : ∃ b, (m.kind == 2) = b := ⟨_, rfl⟩
   cases b2 with
   | true =>
    have k2 : m.kind = 2 := by simpa using h2
    refine rl ?_
    refine H12.bn 1 (eql_iB _ _ _ h2 _ _ _) fun a14 H14 => nt ?_
    refine H14.condT rfl ?_
    have ho : onlyOf m = { mq0 m.kind with present := m.present, code := m.code } := by unfold onlyOf; rw [if_neg k1, if_pos k2]
    have hq : okOf m = (inRB m.code 0 5 && (!m.present || m.code == 0)) := by unfold okOf; rw [if_neg k1, if_pos k2]
    repeat (refine wp_seq ?_)
    refine H14.ds O3 0 [1, 3, 4] rfl [ec 0 87 (.pointer (some ⟨w.heap.size, 13, none⟩)), ec 1 88 (.bool m.present), ec 2 89 (.pointer (some ⟨w.heap.size, 14, none⟩)), ec 3 90 (iz m.code), ec 4 91 (.pointer (some ⟨w1.heap.size, 13, none⟩)), ec 6 92 (.pointer (some ⟨w1.heap.size, 14, none⟩))] [⟨7, 14, [(iz m.code)]⟩, ⟨5, 13, [(.bool m.present)]⟩] rfl rfl ⟨jm, jl fun _ ⟨_, _, h⟩ => load1_b _ _ _ _ ((h.get 1 rfl).get 13 _ rfl), jm, jl fun _ ⟨_, _, h⟩ => load1_i _ _ _ _ ((h.get 1 rfl).get 14 _ rfl), jm, jm, trivial⟩ ⟨q1 fun _ u h f => store1_i _ _ _ u _ h f, q1 fun _ u h f => store1_b _ _ _ u _ h f, trivial⟩ ?_
    intro a15 w4 H15 O4
    have O4 : Own w w.heap.size [(w1.heap.size, (mqCells (onlyOf m) nilV nilV nilV)), (w.heap.size, (mqCells m (.slice A1 m.codes.length c1) (.slice A2 m.wishes.length c2) (.slice A3 m.filters.length c3)))] w4 := by rw [ho]; exact O4
    refine then_normal ?_
    refine rl ?_
    refine wpList_cut 4 (fun a' w' => ∃ b, inRB m.code 0 5 = b ∧ Has a' 289 [(1, pz w.heap.size), (3, pz w1.heap.size), (96, .bool b)] ∧ Own w w.heap.size [(w1.heap.size, (mqCells (onlyOf m) nilV nilV nilV)), (w.heap.size, (mqCells m (.slice A1 m.codes.length c1) (.slice A2 m.wishes.length c2) (.slice A3 m.filters.length c3)))] w') ?_ ?_
    ·skip
     refine H15.ms 1 fun a16 H16 => ?_
     refine H16.ld 0 (O4.li 1 14) fun a17 H17 => ?_
     refine H17.cq 1 (refNumB m.code 5 _) fun a19 H19 => ?_
     exact nt ⟨_, by rfl, H19.keep ⟨rfl, rfl, rfl, trivial⟩, O4⟩
    rintro a16 w5 ⟨v96, q96, H16, O5⟩
    refine wpList_cut 9 (fun a' w' => ∃ b, (inRB m.code 0 5 && ((m.code == 0) || !m.present)) = b ∧ Has a' 289 [(1, pz w.heap.size), (3, pz w1.heap.size), (105, .bool b)] ∧ Own w w.heap.size [(w1.heap.size, (mqCells (onlyOf m) nilV nilV nilV)), (w.heap.size, (mqCells m (.slice A1 m.codes.length c1) (.slice A2 m.wishes.length c2) (.slice A3 m.filters.length c3)))] w') ?_ ?_
    ·skip
     cases v96 with
     | false =>
      refine H16.offs 8 rfl ?_
      intro a17 H17
      refine H17.pick gz rfl rfl rfl rfl rfl ?_
      intro a18 H18
      exact nt ⟨_, by rw [q96] <;> rfl, H18.keep ⟨rfl, rfl, rfl, trivial⟩, O5⟩
     | true =>
      refine H16.field (H16.wt rfl rfl rfl) rfl rfl rfl rfl field_10 ?_
      intro a17 H17
      refine H17.load (H17.wt rfl rfl rfl) rfl rfl rfl rfl (load1_i _ _ _ _ ((O5.get 1 rfl).get 14 _ rfl)) ?_
      intro a18 H18
      refine H18.bin (H18.wt rfl rfl rfl) rfl rfl rfl rfl rfl (eql_i _ _ _ _ _) ?_
      intro a19 H19
      refine H19.move (H19.wt rfl rfl rfl) (.inl rfl) rfl rfl rfl ?_
      intro a20 H20
      obtain ⟨v100, q100⟩ : ∃ b, (m.code == 0) = b := ⟨_, rfl⟩
      rw [q100] at H20
      cases v100 with
      | false =>
       refine H20.field (H20.wt rfl rfl rfl) rfl rfl rfl rfl field_9 ?_
       intro a21 H21
       refine H21.load (H21.wt rfl rfl rfl) rfl rfl rfl rfl (load1_b _ _ _ _ ((O5.get 1 rfl).get 13 _ rfl)) ?_
       intro a22 H22
       refine H22.un (H22.wt rfl rfl rfl) rfl rfl rfl rfl rfl ?_
       intro a23 H23
       refine H23.pick (H23.wt rfl rfl rfl) rfl rfl rfl rfl rfl ?_
       intro a24 H24
       refine H24.pick gz rfl rfl rfl rfl rfl ?_
       intro a25 H25
       exact nt ⟨_, by rw [q96, q100] <;> rfl, H25.keep ⟨rfl, rfl, rfl, trivial⟩, O5⟩
      | true =>
       refine H20.offs 3 rfl ?_
       intro a21 H21
       refine H21.pick (H21.wt rfl rfl rfl) rfl rfl rfl rfl rfl ?_
       intro a22 H22
       refine H22.pick gz rfl rfl rfl rfl rfl ?_
       intro a23 H23
       exact nt ⟨_, by rw [q96, q100] <;> rfl, H23.keep ⟨rfl, rfl, rfl, trivial⟩, O5⟩
    rintro a17 w6 ⟨v105, q105, H17, O6⟩
    refine H17.ms 1 fun a18 H18 => ?_
    refine wpList_nil ?_
    refine block_normal ?_
    refine then_normal ?_
    exact ⟨nilV, nilV, nilV, (by rw [hq, show (inRB m.code 0 5 && (!m.present || m.code == 0)) = v105 from (by rw [Bool.or_comm (!m.present)]; exact q105)]; exact H18.keep ⟨rfl, rfl, rfl, trivial⟩), MqL.nil (by rw [ho] <;> rfl) (by rw [ho] <;> rfl) (by rw [ho] <;> rfl), O6⟩
   | false =>
    have k2 : ¬ m.kind = 2 := by simpa using h2
    refine rl ?_
    refine H12.bn 1 (eql_iB _ _ _ h2 _ _ _) fun a14 H14 => nt ?_
    refine H14.condF rfl ?_
    obtain ⟨b3, h3⟩ : ∃ b, (m.kind == 3) = b := ⟨_, rfl⟩
    cases b3 with
    | true =>
     have k3 : m.kind = 3 := by simpa using h3
     refine rl ?_
     refine H14.bn 1 (eql_iB _ _ _ h3 _ _ _) fun a16 H16 => nt ?_
     refine H16.condT rfl ?_
     have ho : onlyOf m = { mq0 m.kind with topic := m.topic, qos := m.qos, dup := m.dup, retain := m.retain, id := m.id, payload := m.payload } := by unfold onlyOf; rw [if_neg k1, if_neg k2, if_pos k3]
     have hq : okOf m = publishOk m := by unfold okOf; rw [if_neg k1, if_neg k2, if_pos k3]
     repeat (refine wp_seq ?_)
     refine H16.ds O3 0 [1, 3, 4] rfl [ec 0 108 (.pointer (some ⟨w.heap.size, 19, none⟩)), ec 1 109 (.string m.topic), ec 2 110 (.pointer (some ⟨w.heap.size, 17, none⟩)), ec 3 111 (iz m.qos), ec 4 112 (.pointer (some ⟨w.heap.size, 16, none⟩)), ec 5 113 (.bool m.dup), ec 6 114 (.pointer (some ⟨w.heap.size, 18, none⟩)), ec 7 115 (.bool m.retain), ec 8 116 (.pointer (some ⟨w.heap.size, 20, none⟩)), ec 9 117 (iz m.id), ec 10 118 (.pointer (some ⟨w.heap.size, 21, none⟩)), ec 11 119 (.string m.payload), ec 12 120 (.pointer (some ⟨w1.heap.size, 19, none⟩)), ec 14 121 (.pointer (some ⟨w1.heap.size, 17, none⟩)), ec 16 122 (.pointer (some ⟨w1.heap.size, 16, none⟩)), ec 18 123 (.pointer (some ⟨w1.heap.size, 18, none⟩)), ec 20 124 (.pointer (some ⟨w1.heap.size, 20, none⟩)), ec 22 125 (.pointer (some ⟨w1.heap.size, 21, none⟩))] [⟨23, 21, [(.string m.payload)]⟩, ⟨21, 20, [(iz m.id)]⟩, ⟨19, 18, [(.bool m.retain)]⟩, ⟨17, 16, [(.bool m.dup)]⟩, ⟨15, 17, [(iz m.qos)]⟩, ⟨13, 19, [(.string m.topic)]⟩] rfl rfl ⟨jm, jl fun _ ⟨_, _, h⟩ => load1_s _ _ _ _ ((h.get 1 rfl).get 19 _ rfl), jm, jl fun _ ⟨_, _, h⟩ => load1_i _ _ _ _ ((h.get 1 rfl).get 17 _ rfl), jm, jl fun _ ⟨_, _, h⟩ => load1_b _ _ _ _ ((h.get 1 rfl).get 16 _ rfl), jm, jl fun _ ⟨_, _, h⟩ => load1_b _ _ _ _ ((h.get 1 rfl).get 18 _ rfl), jm, jl fun _ ⟨_, _, h⟩ => load1_i _ _ _ _ ((h.get 1 rfl).get 20 _ rfl), jm, jl fun _ ⟨_, _, h⟩ => load1_s _ _ _ _ ((h.get 1 rfl).get 21 _ rfl), jm, jm, jm, jm, jm, jm, trivial⟩ ⟨q1 fun _ u h f => store1_s _ _ _ u _ h f, q1 fun _ u h f => store1_i _ _ _ u _ h f, q1 fun _ u h f => store1_b _ _ _ u _ h f, q1 fun _ u h f => store1_b _ _ _ u _ h f, q1 fun _ u h f => store1_i _ _ _ u _ h f, q1 fun _ u h f => store1_s _ _ _ u _ h f, trivial⟩ ?_
     intro a17 w4 H17 O4
     have O4 : Own w w.heap.size [(w1.heap.size, (mqCells (onlyOf m) nilV nilV nilV)), (w.heap.size, (mqCells m (.slice A1 m.codes.length c1) (.slice A2 m.wishes.length c2) (.slice A3 m.filters.length c3)))] w4 := by rw [ho]; exact O4
     refine then_normal ?_
     refine rl ?_
     refine wpList_cut 4 (fun a' w' => ∃ b, textOk m.topic 1 64 = b ∧ Has a' 289 [(1, pz w.heap.size), (3, pz w1.heap.size), (129, .bool b)] ∧ Own w w.heap.size [(w1.heap.size, (mqCells (onlyOf m) nilV nilV nilV)), (w.heap.size, (mqCells m (.slice A1 m.codes.length c1) (.slice A2 m.wishes.length c2) (.slice A3 m.filters.length c3)))] w') ?_ ?_
     ·skip
      refine H17.ms 1 fun a18 H18 => ?_
      refine H18.ld 0 (O4.ls 1 19) fun a19 H19 => ?_
      refine H19.cl (belowC (refTextV m.topic hF.topic 1 64 _ (hW.below O4.bel))) ?_
      rintro a20 _ w5 ⟨rfl, hb⟩ H20
      have O5 := O4.call hb
      clear hb
      refine H20.ms 1 fun a21 H21 => ?_
      exact nt ⟨_, by rfl, H21.keep ⟨rfl, rfl, rfl, trivial⟩, O5⟩
     rintro a18 w5 ⟨v129, q129, H18, O5⟩
     refine wpList_cut 5 (fun a' w' => ∃ b, (textOk m.topic 1 64 && plainOf (sb m.topic)) = b ∧ Has a' 289 [(1, pz w.heap.size), (3, pz w1.heap.size), (134, .bool b)] ∧ Own w w.heap.size [(w1.heap.size, (mqCells (onlyOf m) nilV nilV nilV)), (w.heap.size, (mqCells m (.slice A1 m.codes.length c1) (.slice A2 m.wishes.length c2) (.slice A3 m.filters.length c3)))] w') ?_ ?_
     ·skip
      cases v129 with
      | false =>
       refine H18.offs 3 rfl ?_
       intro a19 H19
       refine H19.pick gz rfl rfl rfl rfl rfl ?_
       intro a20 H20
       refine H20.ms 1 fun a21 H21 => ?_
       exact nt ⟨_, by rw [q129] <;> rfl, H21.keep ⟨rfl, rfl, rfl, trivial⟩, O5⟩
      | true =>
       refine H18.field (H18.wt rfl rfl rfl) rfl rfl rfl rfl field_15 ?_
       intro a19 H19
       refine H19.load (H19.wt rfl rfl rfl) rfl rfl rfl rfl (load1_s _ _ _ _ ((O5.get 1 rfl).get 19 _ rfl)) ?_
       intro a20 H20
       refine H20.call (H20.wt rfl rfl rfl) rfl rfl rfl rfl (fun _ _ => by kernel_rfl) (quietC (refPlain m.topic hF.topic _)) ?_
       rintro a21 _ _ ⟨rfl, rfl⟩ H21
       refine H21.pick gz rfl rfl rfl rfl rfl ?_
       intro a22 H22
       refine H22.ms 1 fun a23 H23 => ?_
       exact nt ⟨_, by rw [q129] <;> rfl, H23.keep ⟨rfl, rfl, rfl, trivial⟩, O5⟩
     rintro a19 w6 ⟨v134, q134, H19, O6⟩
     refine wpList_cut 5 (fun a' w' => ∃ b, ((textOk m.topic 1 64 && plainOf (sb m.topic)) && inRB m.qos 0 2) = b ∧ Has a' 289 [(1, pz w.heap.size), (3, pz w1.heap.size), (139, .bool b)] ∧ Own w w.heap.size [(w1.heap.size, (mqCells (onlyOf m) nilV nilV nilV)), (w.heap.size, (mqCells m (.slice A1 m.codes.length c1) (.slice A2 m.wishes.length c2) (.slice A3 m.filters.length c3)))] w') ?_ ?_
     ·skip
      cases v134 with
      | false =>
       refine H19.offs 3 rfl ?_
       intro a20 H20
       refine H20.pick gz rfl rfl rfl rfl rfl ?_
       intro a21 H21
       refine H21.ms 1 fun a22 H22 => ?_
       exact nt ⟨_, by rw [q134] <;> rfl, H22.keep ⟨rfl, rfl, rfl, trivial⟩, O6⟩
      | true =>
       refine H19.field (H19.wt rfl rfl rfl) rfl rfl rfl rfl field_13 ?_
       intro a20 H20
       refine H20.load (H20.wt rfl rfl rfl) rfl rfl rfl rfl (load1_i _ _ _ _ ((O6.get 1 rfl).get 17 _ rfl)) ?_
       intro a21 H21
       refine H21.call (H21.wt rfl rfl rfl) rfl rfl rfl rfl (fun _ _ => by kernel_rfl) (quietC (refNumB m.qos 2 _)) ?_
       rintro a22 _ _ ⟨rfl, rfl⟩ H22
       refine H22.pick gz rfl rfl rfl rfl rfl ?_
       intro a23 H23
       refine H23.ms 1 fun a24 H24 => ?_
       exact nt ⟨_, by rw [q134] <;> rfl, H24.keep ⟨rfl, rfl, rfl, trivial⟩, O6⟩
     rintro a20 w7 ⟨v139, q139, H20, O7⟩
     refine wpList_cut 5 (fun a' w' => ∃ b, (((textOk m.topic 1 64 && plainOf (sb m.topic)) && inRB m.qos 0 2) && decide ((m.payload.size : Int) ≤ 128)) = b ∧ Has a' 289 [(1, pz w.heap.size), (3, pz w1.heap.size), (144, .bool b)] ∧ Own w w.heap.size [(w1.heap.size, (mqCells (onlyOf m) nilV nilV nilV)), (w.heap.size, (mqCells m (.slice A1 m.codes.length c1) (.slice A2 m.wishes.length c2) (.slice A3 m.filters.length c3)))] w') ?_ ?_
     ·skip
      cases v139 with
      | false =>
       refine H20.offs 4 rfl ?_
       intro a21 H21
       refine H21.pick gz rfl rfl rfl rfl rfl ?_
       intro a22 H22
       exact nt ⟨_, by rw [q139] <;> rfl, H22.keep ⟨rfl, rfl, rfl, trivial⟩, O7⟩
      | true =>
       refine H20.field (H20.wt rfl rfl rfl) rfl rfl rfl rfl field_17 ?_
       intro a21 H21
       refine H21.load (H21.wt rfl rfl rfl) rfl rfl rfl rfl (load1_s _ _ _ _ ((O7.get 1 rfl).get 21 _ rfl)) ?_
       intro a22 H22
       refine H22.lenS (H22.wt rfl rfl rfl) rfl rfl rfl rfl Tryz.underlying9 ?_
       intro a23 H23
       refine H23.bin (H23.wt rfl rfl rfl) rfl rfl rfl rfl rfl (leq_i _ _ _ rfl _ _ _) ?_
       intro a24 H24
       refine H24.pick gz rfl rfl rfl rfl rfl ?_
       intro a25 H25
       exact nt ⟨_, by rw [q139] <;> rfl, H25.keep ⟨rfl, rfl, rfl, trivial⟩, O7⟩
     rintro a21 w8 ⟨v144, q144, H21, O8⟩
     refine H21.ms 1 fun a22 H22 => nt ?_
     obtain ⟨bq0, hq0⟩ : ∃ b, (m.qos == 0) = b := ⟨_, rfl⟩
     cases bq0 with
     | true =>
      refine H22.rg 1 fun a23 H23 => ?_
      refine H23.ld 0 (O8.li 1 17) fun a24 H24 => ?_
      refine H24.bn 0 (eql_iB _ _ _ hq0 _ _ _) fun a25 H25 => nt ?_
      refine H25.condT rfl ?_
      refine rl ?_
      refine wpList_cut 7 (fun a' w' => ∃ b, ((((textOk m.topic 1 64 && plainOf (sb m.topic)) && inRB m.qos 0 2) && decide ((m.payload.size : Int) ≤ 128)) && !m.dup) = b ∧ Has a' 289 [(1, pz w.heap.size), (3, pz w1.heap.size), (154, .bool b)] ∧ Own w w.heap.size [(w1.heap.size, (mqCells (onlyOf m) nilV nilV nilV)), (w.heap.size, (mqCells m (.slice A1 m.codes.length c1) (.slice A2 m.wishes.length c2) (.slice A3 m.filters.length c3)))] w') ?_ ?_
      ·skip
       refine H25.ms 2 fun a27 H27 => ?_
       cases v144 with
       | false =>
        refine H27.offs 3 rfl ?_
        intro a28 H28
        refine H28.pick gz rfl rfl rfl rfl rfl ?_
        intro a29 H29
        refine H29.ms 1 fun a30 H30 => ?_
        exact nt ⟨_, by rw [q144] <;> rfl, H30.keep ⟨rfl, rfl, rfl, trivial⟩, O8⟩
       | true =>
        refine H27.field (H27.wt rfl rfl rfl) rfl rfl rfl rfl field_12 ?_
        intro a28 H28
        refine H28.load (H28.wt rfl rfl rfl) rfl rfl rfl rfl (load1_b _ _ _ _ ((O8.get 1 rfl).get 16 _ rfl)) ?_
        intro a29 H29
        refine H29.un (H29.wt rfl rfl rfl) rfl rfl rfl rfl rfl ?_
        intro a30 H30
        refine H30.pick gz rfl rfl rfl rfl rfl ?_
        intro a31 H31
        refine H31.ms 1 fun a32 H32 => ?_
        exact nt ⟨_, by rw [q144] <;> rfl, H32.keep ⟨rfl, rfl, rfl, trivial⟩, O8⟩
      rintro a26 w9 ⟨v154, q154, H26, O9⟩
      refine wpList_cut 4 (fun a' w' => ∃ b, (((((textOk m.topic 1 64 && plainOf (sb m.topic)) && inRB m.qos 0 2) && decide ((m.payload.size : Int) ≤ 128)) && !m.dup) && (m.id == 0)) = b ∧ Has a' 289 [(1, pz w.heap.size), (3, pz w1.heap.size), (158, .bool b)] ∧ Own w w.heap.size [(w1.heap.size, (mqCells (onlyOf m) nilV nilV nilV)), (w.heap.size, (mqCells m (.slice A1 m.codes.length c1) (.slice A2 m.wishes.length c2) (.slice A3 m.filters.length c3)))] w') ?_ ?_
      ·skip
       cases v154 with
       | false =>
        refine H26.offs 3 rfl ?_
        intro a27 H27
        refine H27.pick gz rfl rfl rfl rfl rfl ?_
        intro a28 H28
        exact nt ⟨_, by rw [q154] <;> rfl, H28.keep ⟨rfl, rfl, rfl, trivial⟩, O9⟩
       | true =>
        refine H26.field (H26.wt rfl rfl rfl) rfl rfl rfl rfl field_16 ?_
        intro a27 H27
        refine H27.load (H27.wt rfl rfl rfl) rfl rfl rfl rfl (load1_i _ _ _ _ ((O9.get 1 rfl).get 20 _ rfl)) ?_
        intro a28 H28
        refine H28.bin (H28.wt rfl rfl rfl) rfl rfl rfl rfl rfl (eql_i _ _ _ _ _) ?_
        intro a29 H29
        refine H29.pick gz rfl rfl rfl rfl rfl ?_
        intro a30 H30
        exact nt ⟨_, by rw [q154] <;> rfl, H30.keep ⟨rfl, rfl, rfl, trivial⟩, O9⟩
      rintro a27 w10 ⟨v158, q158, H27, O10⟩
      refine H27.ms 1 fun a28 H28 => ?_
      refine wpList_nil ?_
      refine block_normal ?_
      refine then_normal ?_
      exact ⟨nilV, nilV, nilV, (by rw [hq, show publishOk m = v158 from (pub_zero m hq0).trans q158]; exact H28.keep ⟨rfl, rfl, rfl, trivial⟩), MqL.nil (by rw [ho] <;> rfl) (by rw [ho] <;> rfl) (by rw [ho] <;> rfl), O10⟩
     | false =>
      refine H22.rg 1 fun a23 H23 => ?_
      refine H23.ld 0 (O8.li 1 17) fun a24 H24 => ?_
      refine H24.bn 0 (eql_iB _ _ _ hq0 _ _ _) fun a25 H25 => nt ?_
      refine H25.condF rfl ?_
      refine rl ?_
      refine wpList_cut 6 (fun a' w' => ∃ b, ((((textOk m.topic 1 64 && plainOf (sb m.topic)) && inRB m.qos 0 2) && decide ((m.payload.size : Int) ≤ 128)) && inRB m.id 1 65535) = b ∧ Has a' 289 [(1, pz w.heap.size), (3, pz w1.heap.size), (164, .bool b)] ∧ Own w w.heap.size [(w1.heap.size, (mqCells (onlyOf m) nilV nilV nilV)), (w.heap.size, (mqCells m (.slice A1 m.codes.length c1) (.slice A2 m.wishes.length c2) (.slice A3 m.filters.length c3)))] w') ?_ ?_
      ·skip
       refine H25.ms 2 fun a27 H27 => ?_
       cases v144 with
       | false =>
        refine H27.offs 3 rfl ?_
        intro a28 H28
        refine H28.pick gz rfl rfl rfl rfl rfl ?_
        intro a29 H29
        exact nt ⟨_, by rw [q144] <;> rfl, H29.keep ⟨rfl, rfl, rfl, trivial⟩, O8⟩
       | true =>
        refine H27.field (H27.wt rfl rfl rfl) rfl rfl rfl rfl field_16 ?_
        intro a28 H28
        refine H28.load (H28.wt rfl rfl rfl) rfl rfl rfl rfl (load1_i _ _ _ _ ((O8.get 1 rfl).get 20 _ rfl)) ?_
        intro a29 H29
        refine H29.call (H29.wt rfl rfl rfl) rfl rfl rfl rfl (fun _ _ => by kernel_rfl) (quietC (refId m.id _)) ?_
        rintro a30 _ _ ⟨rfl, rfl⟩ H30
        refine H30.pick gz rfl rfl rfl rfl rfl ?_
        intro a31 H31
        exact nt ⟨_, by rw [q144] <;> rfl, H31.keep ⟨rfl, rfl, rfl, trivial⟩, O8⟩
      rintro a26 w9 ⟨v164, q164, H26, O9⟩
      refine H26.ms 1 fun a27 H27 => ?_
      refine wpList_nil ?_
      refine block_normal ?_
      refine then_normal ?_
      exact ⟨nilV, nilV, nilV, (by rw [hq, show publishOk m = v164 from (pub_more m hq0).trans q164]; exact H27.keep ⟨rfl, rfl, rfl, trivial⟩), MqL.nil (by rw [ho] <;> rfl) (by rw [ho] <;> rfl) (by rw [ho] <;> rfl), O9⟩
    | false =>
     have k3 : ¬ m.kind = 3 := by simpa using h3
     refine rl ?_
     refine H14.bn 1 (eql_iB _ _ _ h3 _ _ _) fun a16 H16 => nt ?_
     refine H16.condF rfl ?_
     refine wp_seq_join (fun a w' => ∃ b, idKind m.kind = b ∧ Has a 289 [(1, pz w.heap.size), (3, pz w1.heap.size), (4, .bool true), (11, iz m.kind), (165, .bool b)] ∧ Own w w.heap.size [(w1.heap.size, (mqCells (mq0 m.kind) nilV nilV nilV)), (w.heap.size, (mqCells m (.slice A1 m.codes.length c1) (.slice A2 m.wishes.length c2) (.slice A3 m.filters.length c3)))] w') ?_ ?_
     ·skip
      obtain ⟨b4, h4⟩ : ∃ b, (m.kind == 4) = b := ⟨_, rfl⟩
      cases b4 with
      | true =>
       refine rl ?_
       refine H16.bn 1 (eql_iB _ _ _ h4 _ _ _) fun a18 H18 => nt ?_
       refine H18.condT rfl ?_
       refine skip_wp ?_
       refine then_normal ?_
       exact ⟨_, (by unfold idKind; rw [h4] <;> rfl), H18.keep ⟨rfl, rfl, rfl, rfl, rfl, trivial⟩, O3⟩
      | false =>
       refine rl ?_
       refine H16.bn 1 (eql_iB _ _ _ h4 _ _ _) fun a18 H18 => nt ?_
       refine H18.condF rfl ?_
       obtain ⟨b5, h5⟩ : ∃ b, (m.kind == 5) = b := ⟨_, rfl⟩
       cases b5 with
       | true =>
        refine rl ?_
        refine H18.bn 1 (eql_iB _ _ _ h5 _ _ _) fun a20 H20 => nt ?_
        refine H20.condT rfl ?_
        refine skip_wp ?_
        refine then_normal ?_
        exact ⟨_, (by unfold idKind; rw [h4, h5] <;> rfl), H20.keep ⟨rfl, rfl, rfl, rfl, rfl, trivial⟩, O3⟩
       | false =>
        refine rl ?_
        refine H18.bn 1 (eql_iB _ _ _ h5 _ _ _) fun a20 H20 => nt ?_
        refine H20.condF rfl ?_
        obtain ⟨b6, h6⟩ : ∃ b, (m.kind == 6) = b := ⟨_, rfl⟩
        cases b6 with
        | true =>
         refine rl ?_
         refine H20.bn 1 (eql_iB _ _ _ h6 _ _ _) fun a22 H22 => nt ?_
         refine H22.condT rfl ?_
         refine skip_wp ?_
         refine then_normal ?_
         exact ⟨_, (by unfold idKind; rw [h4, h5, h6] <;> rfl), H22.keep ⟨rfl, rfl, rfl, rfl, rfl, trivial⟩, O3⟩
        | false =>
         refine rl ?_
         refine H20.bn 1 (eql_iB _ _ _ h6 _ _ _) fun a22 H22 => nt ?_
         refine H22.condF rfl ?_
         obtain ⟨b7, h7⟩ : ∃ b, (m.kind == 7) = b := ⟨_, rfl⟩
         cases b7 with
         | true =>
          refine rl ?_
          refine H22.bn 1 (eql_iB _ _ _ h7 _ _ _) fun a24 H24 => nt ?_
          refine H24.condT rfl ?_
          refine skip_wp ?_
          refine then_normal ?_
          exact ⟨_, (by unfold idKind; rw [h4, h5, h6, h7] <;> rfl), H24.keep ⟨rfl, rfl, rfl, rfl, rfl, trivial⟩, O3⟩
         | false =>
          refine rl ?_
          refine H22.bn 1 (eql_iB _ _ _ h7 _ _ _) fun a24 H24 => nt ?_
          refine H24.condF rfl ?_
          obtain ⟨b11, h11⟩ : ∃ b, (m.kind == 11) = b := ⟨_, rfl⟩
          cases b11 with
          | true =>
           refine rl ?_
           refine H24.bn 1 (eql_iB _ _ _ h11 _ _ _) fun a26 H26 => nt ?_
           exact ⟨_, (by unfold idKind; rw [h4, h5, h6, h7, h11] <;> rfl), H26.keep ⟨rfl, rfl, rfl, rfl, rfl, trivial⟩, O3⟩
          | false =>
           refine rl ?_
           refine H24.bn 1 (eql_iB _ _ _ h11 _ _ _) fun a26 H26 => nt ?_
           exact ⟨_, (by unfold idKind; rw [h4, h5, h6, h7, h11] <;> rfl), H26.keep ⟨rfl, rfl, rfl, rfl, rfl, trivial⟩, O3⟩
     rintro a17 w4 ⟨v165, q165, H17, O4⟩
     cases v165 with
     | true =>
      have ki : idKind m.kind = true := q165
      refine H17.condT rfl ?_
      have ho : onlyOf m = { mq0 m.kind with id := m.id } := by unfold onlyOf; rw [if_neg k1, if_neg k2, if_neg k3, if_pos ki]
      have hq : okOf m = inRB m.id 1 65535 := by unfold okOf; rw [if_neg k1, if_neg k2, if_neg k3, if_pos ki]
      refine H17.rg 1 fun a18 H18 => ?_
      refine H18.ld 1 (O4.li 1 20) fun a20 H20 => ?_
      refine H20.sc O4 0 0 (fun u h f => store1_i _ _ _ u _ h f) fun a21 w5 O5 H21 => nt ?_
      have O5' : Own w w.heap.size [(w1.heap.size, (mqCells (onlyOf m) nilV nilV nilV)), (w.heap.size, (mqCells m (.slice A1 m.codes.length c1) (.slice A2 m.wishes.length c2) (.slice A3 m.filters.length c3)))] w5 := by rw [ho]; exact O5
      have O5 := O5'
      refine H21.rg 1 fun a22 H22 => ?_
      refine H22.ld 0 (O5.li 1 20) fun a23 H23 => ?_
      refine H23.cq 1 (refId m.id _) fun a25 H25 => ?_
      refine wpList_nil ?_
      refine block_normal ?_
      refine then_normal ?_
      exact ⟨nilV, nilV, nilV, (by rw [hq, show inRB m.id 1 65535 = inRB m.id 1 65535 from rfl]; exact H25.keep ⟨rfl, rfl, rfl, trivial⟩), MqL.nil (by rw [ho] <;> rfl) (by rw [ho] <;> rfl) (by rw [ho] <;> rfl), O5⟩
     | false =>
      have ki : ¬ idKind m.kind = true := by simp [q165]
      refine H17.condF rfl ?_
      obtain ⟨b8, h8⟩ : ∃ b, (m.kind == 8) = b := ⟨_, rfl⟩
      cases b8 with
      | true =>
       have k8 : m.kind = 8 := by simpa using h8
       refine rl ?_
       refine H17.bn 1 (eql_iB _ _ _ h8 _ _ _) fun a19 H19 => nt ?_
       refine H19.condT rfl ?_
       have ho : onlyOf m = { mq0 m.kind with id := m.id, wishes := m.wishes } := by unfold onlyOf; rw [if_neg k1, if_neg k2, if_neg k3, if_neg ki, if_pos k8]
       have hq : okOf m = (inRB m.id 1 65535 && wishesOk m.wishes) := by unfold okOf; rw [if_neg k1, if_neg k2, if_neg k3, if_neg ki, if_pos k8]
       repeat (refine wp_seq ?_)
       refine H19.ds O4 0 [1, 3, 4] rfl [ec 0 179 (.pointer (some ⟨w.heap.size, 20, none⟩)), ec 1 180 (iz m.id), ec 2 181 (.pointer (some ⟨w.heap.size, 22, none⟩)), ec 3 182 (.slice A2 m.wishes.length c2), ec 4 183 (.pointer (some ⟨w1.heap.size, 20, none⟩)), ec 6 184 (.pointer (some ⟨w1.heap.size, 22, none⟩))] [⟨7, 22, [(.slice A2 m.wishes.length c2)]⟩, ⟨5, 20, [(iz m.id)]⟩] rfl rfl ⟨jm, jl fun _ ⟨_, _, h⟩ => load1_i _ _ _ _ ((h.get 1 rfl).get 20 _ rfl), jm, jl fun _ ⟨_, _, h⟩ => load1_27 _ _ _ _ _ _ ((h.get 1 rfl).get 22 _ rfl), jm, jm, trivial⟩ ⟨q1 fun _ u h f => store1_27 _ _ _ _ _ u _ h f, q1 fun _ u h f => store1_i _ _ _ u _ h f, trivial⟩ ?_
       intro a20 w5 H20 O5
       have O5 : Own w w.heap.size [(w1.heap.size, (mqCells (onlyOf m) nilV (.slice A2 m.wishes.length c2) nilV)), (w.heap.size, (mqCells m (.slice A1 m.codes.length c1) (.slice A2 m.wishes.length c2) (.slice A3 m.filters.length c3)))] w5 := by rw [ho]; exact O5
       refine then_normal ?_
       refine rl ?_
       refine wpList_cut 4 (fun a' w' => ∃ b, inRB m.id 1 65535 = b ∧ Has a' 289 [(1, pz w.heap.size), (3, pz w1.heap.size), (188, .bool b)] ∧ Own w w.heap.size [(w1.heap.size, (mqCells (onlyOf m) nilV (.slice A2 m.wishes.length c2) nilV)), (w.heap.size, (mqCells m (.slice A1 m.codes.length c1) (.slice A2 m.wishes.length c2) (.slice A3 m.filters.length c3)))] w') ?_ ?_
       ·skip
        refine H20.ms 1 fun a21 H21 => ?_
        refine H21.ld 0 (O5.li 1 20) fun a22 H22 => ?_
        refine H22.cq 1 (refId m.id _) fun a24 H24 => ?_
        exact nt ⟨_, by rfl, H24.keep ⟨rfl, rfl, rfl, trivial⟩, O5⟩
       rintro a21 w6 ⟨v188, q188, H21, O6⟩
       refine wpList_cut 4 (fun a' w' => ∃ b, (inRB m.id 1 65535 && wishesOk m.wishes) = b ∧ Has a' 289 [(1, pz w.heap.size), (3, pz w1.heap.size), (192, .bool b)] ∧ Own w w.heap.size [(w1.heap.size, (mqCells (onlyOf m) nilV (.slice A2 m.wishes.length c2) nilV)), (w.heap.size, (mqCells m (.slice A1 m.codes.length c1) (.slice A2 m.wishes.length c2) (.slice A3 m.filters.length c3)))] w') ?_ ?_
       ·skip
        cases v188 with
        | false =>
         refine H21.offs 3 rfl ?_
         intro a22 H22
         refine H22.pick gz rfl rfl rfl rfl rfl ?_
         intro a23 H23
         exact nt ⟨_, by rw [q188] <;> rfl, H23.keep ⟨rfl, rfl, rfl, trivial⟩, O6⟩
        | true =>
         refine H21.field (H21.wt rfl rfl rfl) rfl rfl rfl rfl field_18 ?_
         intro a22 H22
         refine H22.load (H22.wt rfl rfl rfl) rfl rfl rfl rfl (load1_27 _ _ _ _ _ _ ((O6.get 1 rfl).get 22 _ rfl)) ?_
         intro a23 H23
         refine H23.call (H23.wt rfl rfl rfl) rfl rfl rfl rfl (fun _ _ => by kernel_rfl) (belowC (refWishes m.wishes _ rfl hF.wishes A2 c2 k2' _ (hW.below O6.bel) (r2.next O6.bel))) ?_
         rintro a24 _ w7 ⟨rfl, hb⟩ H24
         have O7 := O6.call hb
         clear hb
         refine H24.pick gz rfl rfl rfl rfl rfl ?_
         intro a25 H25
         exact nt ⟨_, by rw [q188] <;> rfl, H25.keep ⟨rfl, rfl, rfl, trivial⟩, O7⟩
       rintro a22 w7 ⟨v192, q192, H22, O7⟩
       refine H22.ms 1 fun a23 H23 => ?_
       refine wpList_nil ?_
       refine block_normal ?_
       refine then_normal ?_
       exact ⟨nilV, (.slice A2 m.wishes.length c2), nilV, (by rw [hq, q192]; exact H23.keep ⟨rfl, rfl, rfl, trivial⟩), (hL.next O7.bel).onlyW (by rw [ho] <;> rfl) (by rw [ho] <;> rfl) (by rw [ho] <;> rfl), O7⟩
      | false =>
       have k8 : ¬ m.kind = 8 := by simpa using h8
       refine rl ?_
       refine H17.bn 1 (eql_iB _ _ _ h8 _ _ _) fun a19 H19 => nt ?_
       refine H19.condF rfl ?_
       obtain ⟨b9, h9⟩ : ∃ b, (m.kind == 9) = b := ⟨_, rfl⟩
       cases b9 with
       | true =>
        have k9 : m.kind = 9 := by simpa using h9
        refine rl ?_
        refine H19.bn 1 (eql_iB _ _ _ h9 _ _ _) fun a21 H21 => nt ?_
        refine H21.condT rfl ?_
        have ho : onlyOf m = { mq0 m.kind with id := m.id, codes := m.codes } := by unfold onlyOf; rw [if_neg k1, if_neg k2, if_neg k3, if_neg ki, if_neg k8, if_pos k9]
        have hq : okOf m = (inRB m.id 1 65535 && codesOk m.codes) := by unfold okOf; rw [if_neg k1, if_neg k2, if_neg k3, if_neg ki, if_neg k8, if_pos k9]
        repeat (refine wp_seq ?_)
        refine H21.ds O4 0 [1, 3, 4] rfl [ec 0 195 (.pointer (some ⟨w.heap.size, 20, none⟩)), ec 1 196 (iz m.id), ec 2 197 (.pointer (some ⟨w.heap.size, 15, none⟩)), ec 3 198 (.slice A1 m.codes.length c1), ec 4 199 (.pointer (some ⟨w1.heap.size, 20, none⟩)), ec 6 200 (.pointer (some ⟨w1.heap.size, 15, none⟩))] [⟨7, 15, [(.slice A1 m.codes.length c1)]⟩, ⟨5, 20, [(iz m.id)]⟩] rfl rfl ⟨jm, jl fun _ ⟨_, _, h⟩ => load1_i _ _ _ _ ((h.get 1 rfl).get 20 _ rfl), jm, jl fun _ ⟨_, _, h⟩ => load1_26 _ _ _ _ _ _ ((h.get 1 rfl).get 15 _ rfl), jm, jm, trivial⟩ ⟨q1 fun _ u h f => store1_26 _ _ _ _ _ u _ h f, q1 fun _ u h f => store1_i _ _ _ u _ h f, trivial⟩ ?_
        intro a22 w5 H22 O5
        have O5 : Own w w.heap.size [(w1.heap.size, (mqCells (onlyOf m) (.slice A1 m.codes.length c1) nilV nilV)), (w.heap.size, (mqCells m (.slice A1 m.codes.length c1) (.slice A2 m.wishes.length c2) (.slice A3 m.filters.length c3)))] w5 := by rw [ho]; exact O5
        refine then_normal ?_
        refine rl ?_
        refine wpList_cut 4 (fun a' w' => ∃ b, inRB m.id 1 65535 = b ∧ Has a' 289 [(1, pz w.heap.size), (3, pz w1.heap.size), (204, .bool b)] ∧ Own w w.heap.size [(w1.heap.size, (mqCells (onlyOf m) (.slice A1 m.codes.length c1) nilV nilV)), (w.heap.size, (mqCells m (.slice A1 m.codes.length c1) (.slice A2 m.wishes.length c2) (.slice A3 m.filters.length c3)))] w') ?_ ?_
        ·skip
         refine H22.ms 1 fun a23 H23 => ?_
         refine H23.ld 0 (O5.li 1 20) fun a24 H24 => ?_
         refine H24.cq 1 (refId m.id _) fun a26 H26 => ?_
         exact nt ⟨_, by rfl, H26.keep ⟨rfl, rfl, rfl, trivial⟩, O5⟩
        rintro a23 w6 ⟨v204, q204, H23, O6⟩
        refine wpList_cut 6 (fun a' w' => ∃ b, (inRB m.id 1 65535 && decide ((1 : Int) ≤ m.codes.length)) = b ∧ Has a' 289 [(1, pz w.heap.size), (3, pz w1.heap.size), (210, .bool b)] ∧ Own w w.heap.size [(w1.heap.size, (mqCells (onlyOf m) (.slice A1 m.codes.length c1) nilV nilV)), (w.heap.size, (mqCells m (.slice A1 m.codes.length c1) (.slice A2 m.wishes.length c2) (.slice A3 m.filters.length c3)))] w') ?_ ?_
        ·skip
         cases v204 with
         | false =>
          refine H23.offs 4 rfl ?_
          intro a24 H24
          refine H24.pick gz rfl rfl rfl rfl rfl ?_
          intro a25 H25
          refine H25.ms 1 fun a26 H26 => ?_
          exact nt ⟨_, by rw [q204] <;> rfl, H26.keep ⟨rfl, rfl, rfl, trivial⟩, O6⟩
         | true =>
          refine H23.field (H23.wt rfl rfl rfl) rfl rfl rfl rfl field_11 ?_
          intro a24 H24
          refine H24.load (H24.wt rfl rfl rfl) rfl rfl rfl rfl (load1_26 _ _ _ _ _ _ ((O6.get 1 rfl).get 15 _ rfl)) ?_
          intro a25 H25
          refine H25.len (H25.wt rfl rfl rfl) rfl rfl rfl rfl Tryz.underlying45 ?_
          intro a26 H26
          refine H26.bin (H26.wt rfl rfl rfl) rfl rfl rfl rfl rfl (geq_i _ _ _ rfl _ _ _) ?_
          intro a27 H27
          refine H27.pick gz rfl rfl rfl rfl rfl ?_
          intro a28 H28
          refine H28.ms 1 fun a29 H29 => ?_
          exact nt ⟨_, by rw [q204] <;> rfl, H29.keep ⟨rfl, rfl, rfl, trivial⟩, O6⟩
        rintro a24 w7 ⟨v210, q210, H24, O7⟩
        refine wpList_cut 5 (fun a' w' => ∃ b, ((inRB m.id 1 65535 && decide ((1 : Int) ≤ m.codes.length)) && decide ((m.codes.length : Int) ≤ 8)) = b ∧ Has a' 289 [(1, pz w.heap.size), (3, pz w1.heap.size), (215, .bool b)] ∧ Own w w.heap.size [(w1.heap.size, (mqCells (onlyOf m) (.slice A1 m.codes.length c1) nilV nilV)), (w.heap.size, (mqCells m (.slice A1 m.codes.length c1) (.slice A2 m.wishes.length c2) (.slice A3 m.filters.length c3)))] w') ?_ ?_
        ·skip
         cases v210 with
         | false =>
          refine H24.offs 4 rfl ?_
          intro a25 H25
          refine H25.pick gz rfl rfl rfl rfl rfl ?_
          intro a26 H26
          exact nt ⟨_, by rw [q210] <;> rfl, H26.keep ⟨rfl, rfl, rfl, trivial⟩, O7⟩
         | true =>
          refine H24.field (H24.wt rfl rfl rfl) rfl rfl rfl rfl field_11 ?_
          intro a25 H25
          refine H25.load (H25.wt rfl rfl rfl) rfl rfl rfl rfl (load1_26 _ _ _ _ _ _ ((O7.get 1 rfl).get 15 _ rfl)) ?_
          intro a26 H26
          refine H26.len (H26.wt rfl rfl rfl) rfl rfl rfl rfl Tryz.underlying45 ?_
          intro a27 H27
          refine H27.bin (H27.wt rfl rfl rfl) rfl rfl rfl rfl rfl (leq_i _ _ _ rfl _ _ _) ?_
          intro a28 H28
          refine H28.pick gz rfl rfl rfl rfl rfl ?_
          intro a29 H29
          exact nt ⟨_, by rw [q210] <;> rfl, H29.keep ⟨rfl, rfl, rfl, trivial⟩, O7⟩
        rintro a25 w8 ⟨v215, q215, H25, O8⟩
        refine H25.ms 1 fun a26 H26 => nt ?_
        refine H26.rg 1 fun a27 H27 => nt ?_
        refine wp_block ?_
        refine wp_loop_up m.codes.length (fun k a w' => ∃ b, (((inRB m.id 1 65535 && decide ((1 : Int) ≤ m.codes.length)) && decide ((m.codes.length : Int) ≤ 8)) && codesAll (m.codes.take k)) = b ∧ Has a 289 [(1, pz w.heap.size), (3, pz w1.heap.size), (4, .bool b), (5, iz k)] ∧ Own w w.heap.size [(w1.heap.size, (mqCells (onlyOf m) (.slice A1 m.codes.length c1) nilV nilV)), (w.heap.size, (mqCells m (.slice A1 m.codes.length c1) (.slice A2 m.wishes.length c2) (.slice A3 m.filters.length c3)))] w') ?_ ?_
        ·exact ⟨_, (by rw [List.take_zero, q215]; simp [codesAll]), H27.keep ⟨rfl, rfl, rfl, rfl, trivial⟩, O8⟩
        ·rintro k a28 w9 hkn ⟨v4, q4, H28, O9⟩
         by_cases hlt : k < m.codes.length
         ·skip
          refine H28.rg 2 fun a30 H30 => ?_
          refine H30.ld 0 (O9.l6 1 15) fun a31 H31 => ?_
          refine H31.len gz rfl rfl rfl rfl Tryz.underlying45 ?_
          intro a32 H32
          refine H32.bb 0 rfl rfl rfl rfl rfl rfl (lss_i _ _ true (by simpa using hlt) _ _ _) rfl fun a33 H33 => nt ?_
          refine H33.condT rfl ?_
          refine skip_wp ?_
          refine then_normal ?_
          repeat (refine wp_seq ?_)
          refine wp_block ?_
          refine rl ?_
          obtain ⟨b, o, v, hA, _, hv, hc⟩ := (r1.next O9.bel).get1 hlt
          obtain ⟨x, hx⟩ : ∃ x, m.codes[k]? = some x := ⟨_, List.getElem?_eq_getElem hlt⟩
          rw [List.getElem?_map, hx] at hv
          injection hv with hv
          subst hv
          refine wpList_cut 17 (fun a' w' => ∃ b, ((((inRB m.id 1 65535 && decide ((1 : Int) ≤ m.codes.length)) && decide ((m.codes.length : Int) ≤ 8)) && codesAll (m.codes.take k)) && (inRB x 0 2 || (x == 128))) = b ∧ Has a' 289 [(1, pz w.heap.size), (3, pz w1.heap.size), (5, iz k), (239, .bool b)] ∧ Own w w.heap.size [(w1.heap.size, (mqCells (onlyOf m) (.slice A1 m.codes.length c1) nilV nilV)), (w.heap.size, (mqCells m (.slice A1 m.codes.length c1) (.slice A2 m.wishes.length c2) (.slice A3 m.filters.length c3)))] w') ?_ ?_
          ·skip
           refine H33.ms 2 fun a35 H35 => ?_
           cases v4 with
           | false =>
            refine H35.offs 14 rfl ?_
            intro a36 H36
            refine H36.pick gz rfl rfl rfl rfl rfl ?_
            intro a37 H37
            exact nt ⟨_, by rw [q4] <;> rfl, H37.keep ⟨rfl, rfl, rfl, rfl, trivial⟩, O9⟩
           | true =>
            refine H35.field (H35.wt rfl rfl rfl) rfl rfl rfl rfl field_11 ?_
            intro a36 H36
            refine H36.load (H36.wt rfl rfl rfl) rfl rfl rfl rfl (load1_26 _ _ _ _ _ _ ((O9.get 1 rfl).get 15 _ rfl)) ?_
            intro a37 H37
            refine H37.move (H37.wt rfl rfl rfl) (.inl rfl) rfl rfl rfl ?_
            intro a38 H38
            refine H38.index (H38.wt rfl rfl rfl) rfl rfl rfl rfl rfl (show (Instr.indexAt 45 (.slice A1 m.codes.length c1) (iz k)).run Tryz.prog _ = .ok (.pointer (some ⟨b, o + k, none⟩)) _ by rw [hA]; exact index_1 45 Tryz.underlying45 (fun _ => by kernel_rfl) _ _ _ _ _ hlt _) ?_
            intro a39 H39
            refine H39.load (H39.wt rfl rfl rfl) rfl rfl rfl rfl (load1_i _ _ _ _ hc) ?_
            intro a40 H40
            refine H40.call (H40.wt rfl rfl rfl) rfl rfl rfl rfl (fun _ _ => by kernel_rfl) (quietC (refNumB x 2 _)) ?_
            rintro a41 _ _ ⟨rfl, rfl⟩ H41
            refine H41.move (H41.wt rfl rfl rfl) (.inl rfl) rfl rfl rfl ?_
            intro a42 H42
            obtain ⟨v231, q231⟩ : ∃ b, inRB x 0 2 = b := ⟨_, rfl⟩
            rw [q231] at H42
            cases v231 with
            | false =>
             refine H42.field (H42.wt rfl rfl rfl) rfl rfl rfl rfl field_11 ?_
             intro a43 H43
             refine H43.load (H43.wt rfl rfl rfl) rfl rfl rfl rfl (load1_26 _ _ _ _ _ _ ((O9.get 1 rfl).get 15 _ rfl)) ?_
             intro a44 H44
             refine H44.move (H44.wt rfl rfl rfl) (.inl rfl) rfl rfl rfl ?_
             intro a45 H45
             refine H45.index (H45.wt rfl rfl rfl) rfl rfl rfl rfl rfl (show (Instr.indexAt 45 (.slice A1 m.codes.length c1) (iz k)).run Tryz.prog _ = .ok (.pointer (some ⟨b, o + k, none⟩)) _ by rw [hA]; exact index_1 45 Tryz.underlying45 (fun _ => by kernel_rfl) _ _ _ _ _ hlt _) ?_
             intro a46 H46
             refine H46.load (H46.wt rfl rfl rfl) rfl rfl rfl rfl (load1_i _ _ _ _ hc) ?_
             intro a47 H47
             refine H47.bin (H47.wt rfl rfl rfl) rfl rfl rfl rfl rfl (eql_i _ _ _ _ _) ?_
             intro a48 H48
             refine H48.pick (H48.wt rfl rfl rfl) rfl rfl rfl rfl rfl ?_
             intro a49 H49
             refine H49.pick gz rfl rfl rfl rfl rfl ?_
             intro a50 H50
             exact nt ⟨_, by rw [q4, q231] <;> rfl, H50.keep ⟨rfl, rfl, rfl, rfl, trivial⟩, O9⟩
            | true =>
             refine H42.offs 6 rfl ?_
             intro a43 H43
             refine H43.pick (H43.wt rfl rfl rfl) rfl rfl rfl rfl rfl ?_
             intro a44 H44
             refine H44.pick gz rfl rfl rfl rfl rfl ?_
             intro a45 H45
             exact nt ⟨_, by rw [q4, q231] <;> rfl, H45.keep ⟨rfl, rfl, rfl, rfl, trivial⟩, O9⟩
          rintro a34 w10 ⟨v239, q239, H34, O10⟩
          refine H34.ms 1 fun a35 H35 => ?_
          refine wpList_nil ?_
          refine block_normal ?_
          refine then_normal ?_
          refine H35.rg 1 fun a36 H36 => ?_
          refine H36.bb 1 rfl rfl rfl rfl rfl rfl (succ_i _ (by omega) _ _ _) rfl fun a38 H38 => nt ?_
          exact ⟨hlt, _, (by rw [take_snoc? _ _ _ hx, codesAll_snoc, ← Bool.and_assoc]; exact q239), H38.keep ⟨rfl, rfl, rfl, rfl, trivial⟩, O10⟩
         ·skip
          refine H28.rg 2 fun a30 H30 => ?_
          refine H30.ld 0 (O9.l6 1 15) fun a31 H31 => ?_
          refine H31.len gz rfl rfl rfl rfl Tryz.underlying45 ?_
          intro a32 H32
          refine H32.bb 0 rfl rfl rfl rfl rfl rfl (lss_i _ _ false (by simpa using hlt) _ _ _) rfl fun a33 H33 => nt ?_
          refine H33.condF rfl ?_
          refine wp_exit ?_
          repeat (with_reducible refine then_exit ?_)
          refine block_leave ?_
          rw [List.take_of_length_le (by omega)] at q4
          refine block_normal ?_
          refine then_normal ?_
          exact ⟨(.slice A1 m.codes.length c1), nilV, nilV, (by rw [hq, show (inRB m.id 1 65535 && codesOk m.codes) = v4 from (list_and _ _ _).symm.trans q4]; exact H33.keep ⟨rfl, rfl, rfl, trivial⟩), (hL.next O9.bel).onlyC (by rw [ho] <;> rfl) (by rw [ho] <;> rfl) (by rw [ho] <;> rfl), O9⟩
       | false =>
        have k9 : ¬ m.kind = 9 := by simpa using h9
        refine rl ?_
        refine H19.bn 1 (eql_iB _ _ _ h9 _ _ _) fun a21 H21 => nt ?_
        refine H21.condF rfl ?_
        obtain ⟨b10, h10⟩ : ∃ b, (m.kind == 10) = b := ⟨_, rfl⟩
        cases b10 with
        | true =>
         have k10 : m.kind = 10 := by simpa using h10
         refine rl ?_
         refine H21.bn 1 (eql_iB _ _ _ h10 _ _ _) fun a23 H23 => nt ?_
         refine H23.condT rfl ?_
         have ho : onlyOf m = { mq0 m.kind with id := m.id, filters := m.filters } := by unfold onlyOf; rw [if_neg k1, if_neg k2, if_neg k3, if_neg ki, if_neg k8, if_neg k9, if_pos k10]
         have hq : okOf m = (inRB m.id 1 65535 && filtersOk m.filters) := by unfold okOf; rw [if_neg k1, if_neg k2, if_neg k3, if_neg ki, if_neg k8, if_neg k9, if_pos k10]
         repeat (refine wp_seq ?_)
         refine H23.ds O4 0 [1, 3, 4] rfl [ec 0 242 (.pointer (some ⟨w.heap.size, 20, none⟩)), ec 1 243 (iz m.id), ec 2 244 (.pointer (some ⟨w.heap.size, 23, none⟩)), ec 3 245 (.slice A3 m.filters.length c3), ec 4 246 (.pointer (some ⟨w1.heap.size, 20, none⟩)), ec 6 247 (.pointer (some ⟨w1.heap.size, 23, none⟩))] [⟨7, 23, [(.slice A3 m.filters.length c3)]⟩, ⟨5, 20, [(iz m.id)]⟩] rfl rfl ⟨jm, jl fun _ ⟨_, _, h⟩ => load1_i _ _ _ _ ((h.get 1 rfl).get 20 _ rfl), jm, jl fun _ ⟨_, _, h⟩ => load1_28 _ _ _ _ _ _ ((h.get 1 rfl).get 23 _ rfl), jm, jm, trivial⟩ ⟨q1 fun _ u h f => store1_28 _ _ _ _ _ u _ h f, q1 fun _ u h f => store1_i _ _ _ u _ h f, trivial⟩ ?_
         intro a24 w5 H24 O5
         have O5 : Own w w.heap.size [(w1.heap.size, (mqCells (onlyOf m) nilV nilV (.slice A3 m.filters.length c3))), (w.heap.size, (mqCells m (.slice A1 m.codes.length c1) (.slice A2 m.wishes.length c2) (.slice A3 m.filters.length c3)))] w5 := by rw [ho]; exact O5
         refine then_normal ?_
         refine rl ?_
         refine wpList_cut 4 (fun a' w' => ∃ b, inRB m.id 1 65535 = b ∧ Has a' 289 [(1, pz w.heap.size), (3, pz w1.heap.size), (251, .bool b)] ∧ Own w w.heap.size [(w1.heap.size, (mqCells (onlyOf m) nilV nilV (.slice A3 m.filters.length c3))), (w.heap.size, (mqCells m (.slice A1 m.codes.length c1) (.slice A2 m.wishes.length c2) (.slice A3 m.filters.length c3)))] w') ?_ ?_
         ·skip
          refine H24.ms 1 fun a25 H25 => ?_
          refine H25.ld 0 (O5.li 1 20) fun a26 H26 => ?_
          refine H26.cq 1 (refId m.id _) fun a28 H28 => ?_
          exact nt ⟨_, by rfl, H28.keep ⟨rfl, rfl, rfl, trivial⟩, O5⟩
         rintro a25 w6 ⟨v251, q251, H25, O6⟩
         refine wpList_cut 6 (fun a' w' => ∃ b, (inRB m.id 1 65535 && decide ((1 : Int) ≤ m.filters.length)) = b ∧ Has a' 289 [(1, pz w.heap.size), (3, pz w1.heap.size), (257, .bool b)] ∧ Own w w.heap.size [(w1.heap.size, (mqCells (onlyOf m) nilV nilV (.slice A3 m.filters.length c3))), (w.heap.size, (mqCells m (.slice A1 m.codes.length c1) (.slice A2 m.wishes.length c2) (.slice A3 m.filters.length c3)))] w') ?_ ?_
         ·skip
          cases v251 with
          | false =>
           refine H25.offs 4 rfl ?_
           intro a26 H26
           refine H26.pick gz rfl rfl rfl rfl rfl ?_
           intro a27 H27
           refine H27.ms 1 fun a28 H28 => ?_
           exact nt ⟨_, by rw [q251] <;> rfl, H28.keep ⟨rfl, rfl, rfl, trivial⟩, O6⟩
          | true =>
           refine H25.field (H25.wt rfl rfl rfl) rfl rfl rfl rfl field_19 ?_
           intro a26 H26
           refine H26.load (H26.wt rfl rfl rfl) rfl rfl rfl rfl (load1_28 _ _ _ _ _ _ ((O6.get 1 rfl).get 23 _ rfl)) ?_
           intro a27 H27
           refine H27.len (H27.wt rfl rfl rfl) rfl rfl rfl rfl Tryz.underlying47 ?_
           intro a28 H28
           refine H28.bin (H28.wt rfl rfl rfl) rfl rfl rfl rfl rfl (geq_i _ _ _ rfl _ _ _) ?_
           intro a29 H29
           refine H29.pick gz rfl rfl rfl rfl rfl ?_
           intro a30 H30
           refine H30.ms 1 fun a31 H31 => ?_
           exact nt ⟨_, by rw [q251] <;> rfl, H31.keep ⟨rfl, rfl, rfl, trivial⟩, O6⟩
         rintro a26 w7 ⟨v257, q257, H26, O7⟩
         refine wpList_cut 5 (fun a' w' => ∃ b, ((inRB m.id 1 65535 && decide ((1 : Int) ≤ m.filters.length)) && decide ((m.filters.length : Int) ≤ 8)) = b ∧ Has a' 289 [(1, pz w.heap.size), (3, pz w1.heap.size), (262, .bool b)] ∧ Own w w.heap.size [(w1.heap.size, (mqCells (onlyOf m) nilV nilV (.slice A3 m.filters.length c3))), (w.heap.size, (mqCells m (.slice A1 m.codes.length c1) (.slice A2 m.wishes.length c2) (.slice A3 m.filters.length c3)))] w') ?_ ?_
         ·skip
          cases v257 with
          | false =>
           refine H26.offs 4 rfl ?_
           intro a27 H27
           refine H27.pick gz rfl rfl rfl rfl rfl ?_
           intro a28 H28
           exact nt ⟨_, by rw [q257] <;> rfl, H28.keep ⟨rfl, rfl, rfl, trivial⟩, O7⟩
          | true =>
           refine H26.field (H26.wt rfl rfl rfl) rfl rfl rfl rfl field_19 ?_
           intro a27 H27
           refine H27.load (H27.wt rfl rfl rfl) rfl rfl rfl rfl (load1_28 _ _ _ _ _ _ ((O7.get 1 rfl).get 23 _ rfl)) ?_
           intro a28 H28
           refine H28.len (H28.wt rfl rfl rfl) rfl rfl rfl rfl Tryz.underlying47 ?_
           intro a29 H29
           refine H29.bin (H29.wt rfl rfl rfl) rfl rfl rfl rfl rfl (leq_i _ _ _ rfl _ _ _) ?_
           intro a30 H30
           refine H30.pick gz rfl rfl rfl rfl rfl ?_
           intro a31 H31
           exact nt ⟨_, by rw [q257] <;> rfl, H31.keep ⟨rfl, rfl, rfl, trivial⟩, O7⟩
         rintro a27 w8 ⟨v262, q262, H27, O8⟩
         refine H27.ms 1 fun a28 H28 => nt ?_
         refine H28.rg 1 fun a29 H29 => nt ?_
         refine wp_block ?_
         refine wp_loop_up m.filters.length (fun k a w' => ∃ b, (((inRB m.id 1 65535 && decide ((1 : Int) ≤ m.filters.length)) && decide ((m.filters.length : Int) ≤ 8)) && filtersAll (m.filters.take k)) = b ∧ Has a 289 [(1, pz w.heap.size), (3, pz w1.heap.size), (4, .bool b), (6, iz k)] ∧ Own w w.heap.size [(w1.heap.size, (mqCells (onlyOf m) nilV nilV (.slice A3 m.filters.length c3))), (w.heap.size, (mqCells m (.slice A1 m.codes.length c1) (.slice A2 m.wishes.length c2) (.slice A3 m.filters.length c3)))] w') ?_ ?_
         ·exact ⟨_, (by rw [List.take_zero, q262]; simp [filtersAll]), H29.keep ⟨rfl, rfl, rfl, rfl, trivial⟩, O8⟩
         ·rintro k a30 w9 hkn ⟨v4, q4, H30, O9⟩
          by_cases hlt : k < m.filters.length
          ·skip
           refine H30.rg 2 fun a32 H32 => ?_
           refine H32.ld 0 (O9.l8 1 23) fun a33 H33 => ?_
           refine H33.len gz rfl rfl rfl rfl Tryz.underlying47 ?_
           intro a34 H34
           refine H34.bb 0 rfl rfl rfl rfl rfl rfl (lss_i _ _ true (by simpa using hlt) _ _ _) rfl fun a35 H35 => nt ?_
           refine H35.condT rfl ?_
           refine skip_wp ?_
           refine then_normal ?_
           repeat (refine wp_seq ?_)
           refine wp_block ?_
           refine rl ?_
           obtain ⟨b, o, v, hA, _, hv, hc⟩ := (r3.next O9.bel).get1 hlt
           obtain ⟨x, hx⟩ : ∃ x, m.filters[k]? = some x := ⟨_, List.getElem?_eq_getElem hlt⟩
           rw [List.getElem?_map, hx] at hv
           injection hv with hv
           subst hv
           refine wpList_cut 9 (fun a' w' => ∃ b, ((((inRB m.id 1 65535 && decide ((1 : Int) ≤ m.filters.length)) && decide ((m.filters.length : Int) ≤ 8)) && filtersAll (m.filters.take k)) && textOk x 1 64) = b ∧ Has a' 289 [(1, pz w.heap.size), (3, pz w1.heap.size), (6, iz k), (278, .bool b)] ∧ Own w w.heap.size [(w1.heap.size, (mqCells (onlyOf m) nilV nilV (.slice A3 m.filters.length c3))), (w.heap.size, (mqCells m (.slice A1 m.codes.length c1) (.slice A2 m.wishes.length c2) (.slice A3 m.filters.length c3)))] w') ?_ ?_
           ·skip
            refine H35.ms 2 fun a37 H37 => ?_
            cases v4 with
            | false =>
             refine H37.offs 6 rfl ?_
             intro a38 H38
             refine H38.pick gz rfl rfl rfl rfl rfl ?_
             intro a39 H39
             exact nt ⟨_, by rw [q4] <;> rfl, H39.keep ⟨rfl, rfl, rfl, rfl, trivial⟩, O9⟩
            | true =>
             refine H37.field (H37.wt rfl rfl rfl) rfl rfl rfl rfl field_19 ?_
             intro a38 H38
             refine H38.load (H38.wt rfl rfl rfl) rfl rfl rfl rfl (load1_28 _ _ _ _ _ _ ((O9.get 1 rfl).get 23 _ rfl)) ?_
             intro a39 H39
             refine H39.move (H39.wt rfl rfl rfl) (.inl rfl) rfl rfl rfl ?_
             intro a40 H40
             refine H40.index (H40.wt rfl rfl rfl) rfl rfl rfl rfl rfl (show (Instr.indexAt 47 (.slice A3 m.filters.length c3) (iz k)).run Tryz.prog _ = .ok (.pointer (some ⟨b, o + k, none⟩)) _ by rw [hA]; exact index_1 47 Tryz.underlying47 (fun _ => by kernel_rfl) _ _ _ _ _ hlt _) ?_
             intro a41 H41
             refine H41.load (H41.wt rfl rfl rfl) rfl rfl rfl rfl (load1_s _ _ _ _ hc) ?_
             intro a42 H42
             refine H42.call (H42.wt rfl rfl rfl) rfl rfl rfl rfl (fun _ _ => by kernel_rfl) (belowC (refTextV x (hF.filters x (List.mem_of_getElem? hx)) 1 64 _ (hW.below O9.bel))) ?_
             rintro a43 _ w10 ⟨rfl, hb⟩ H43
             have O10 := O9.call hb
             clear hb
             refine H43.pick gz rfl rfl rfl rfl rfl ?_
             intro a44 H44
             exact nt ⟨_, by rw [q4] <;> rfl, H44.keep ⟨rfl, rfl, rfl, rfl, trivial⟩, O10⟩
           rintro a36 w10 ⟨v278, q278, H36, O10⟩
           refine H36.ms 1 fun a37 H37 => ?_
           refine wpList_nil ?_
           refine block_normal ?_
           refine then_normal ?_
           refine H37.rg 1 fun a38 H38 => ?_
           refine H38.bb 1 rfl rfl rfl rfl rfl rfl (succ_i _ (by omega) _ _ _) rfl fun a40 H40 => nt ?_
           exact ⟨hlt, _, (by rw [take_snoc? _ _ _ hx, filtersAll_snoc, ← Bool.and_assoc]; exact q278), H40.keep ⟨rfl, rfl, rfl, rfl, trivial⟩, O10⟩
          ·skip
           refine H30.rg 2 fun a32 H32 => ?_
           refine H32.ld 0 (O9.l8 1 23) fun a33 H33 => ?_
           refine H33.len gz rfl rfl rfl rfl Tryz.underlying47 ?_
           intro a34 H34
           refine H34.bb 0 rfl rfl rfl rfl rfl rfl (lss_i _ _ false (by simpa using hlt) _ _ _) rfl fun a35 H35 => nt ?_
           refine H35.condF rfl ?_
           refine wp_exit ?_
           repeat (with_reducible refine then_exit ?_)
           refine block_leave ?_
           rw [List.take_of_length_le (by omega)] at q4
           refine block_normal ?_
           refine then_normal ?_
           exact ⟨nilV, nilV, (.slice A3 m.filters.length c3), (by rw [hq, show (inRB m.id 1 65535 && filtersOk m.filters) = v4 from (list_and _ _ _).symm.trans q4]; exact H35.keep ⟨rfl, rfl, rfl, trivial⟩), (hL.next O9.bel).onlyF (by rw [ho] <;> rfl) (by rw [ho] <;> rfl) (by rw [ho] <;> rfl), O9⟩
        | false =>
         have k10 : ¬ m.kind = 10 := by simpa using h10
         refine rl ?_
         refine H21.bn 1 (eql_iB _ _ _ h10 _ _ _) fun a23 H23 => nt ?_
         refine H23.condF rfl ?_
         refine wp_seq_join (fun a w' => ∃ b, bareKind m.kind = b ∧ Has a 289 [(1, pz w.heap.size), (3, pz w1.heap.size), (4, .bool true), (11, iz m.kind), (279, .bool b)] ∧ Own w w.heap.size [(w1.heap.size, (mqCells (mq0 m.kind) nilV nilV nilV)), (w.heap.size, (mqCells m (.slice A1 m.codes.length c1) (.slice A2 m.wishes.length c2) (.slice A3 m.filters.length c3)))] w') ?_ ?_
         ·skip
          obtain ⟨b12, h12⟩ : ∃ b, (m.kind == 12) = b := ⟨_, rfl⟩
          cases b12 with
          | true =>
           refine rl ?_
           refine H23.bn 1 (eql_iB _ _ _ h12 _ _ _) fun a25 H25 => nt ?_
           refine H25.condT rfl ?_
           refine skip_wp ?_
           refine then_normal ?_
           exact ⟨_, (by unfold bareKind; rw [h12] <;> rfl), H25.keep ⟨rfl, rfl, rfl, rfl, rfl, trivial⟩, O4⟩
          | false =>
           refine rl ?_
           refine H23.bn 1 (eql_iB _ _ _ h12 _ _ _) fun a25 H25 => nt ?_
           refine H25.condF rfl ?_
           obtain ⟨b13, h13⟩ : ∃ b, (m.kind == 13) = b := ⟨_, rfl⟩
           cases b13 with
           | true =>
            refine rl ?_
            refine H25.bn 1 (eql_iB _ _ _ h13 _ _ _) fun a27 H27 => nt ?_
            refine H27.condT rfl ?_
            refine skip_wp ?_
            refine then_normal ?_
            exact ⟨_, (by unfold bareKind; rw [h12, h13] <;> rfl), H27.keep ⟨rfl, rfl, rfl, rfl, rfl, trivial⟩, O4⟩
           | false =>
            refine rl ?_
            refine H25.bn 1 (eql_iB _ _ _ h13 _ _ _) fun a27 H27 => nt ?_
            refine H27.condF rfl ?_
            obtain ⟨b14, h14⟩ : ∃ b, (m.kind == 14) = b := ⟨_, rfl⟩
            cases b14 with
            | true =>
             refine rl ?_
             refine H27.bn 1 (eql_iB _ _ _ h14 _ _ _) fun a29 H29 => nt ?_
             exact ⟨_, (by unfold bareKind; rw [h12, h13, h14] <;> rfl), H29.keep ⟨rfl, rfl, rfl, rfl, rfl, trivial⟩, O4⟩
            | false =>
             refine rl ?_
             refine H27.bn 1 (eql_iB _ _ _ h14 _ _ _) fun a29 H29 => nt ?_
             exact ⟨_, (by unfold bareKind; rw [h12, h13, h14] <;> rfl), H29.keep ⟨rfl, rfl, rfl, rfl, rfl, trivial⟩, O4⟩
         rintro a24 w5 ⟨v279, q279, H24, O5⟩
         cases v279 with
         | true =>
          refine H24.condT rfl ?_
          refine skip_wp ?_
          have ho : onlyOf m = mq0 m.kind := by unfold onlyOf; rw [if_neg k1, if_neg k2, if_neg k3, if_neg ki, if_neg k8, if_neg k9, if_neg k10]
          have hq : okOf m = bareKind m.kind := by unfold okOf; rw [if_neg k1, if_neg k2, if_neg k3, if_neg ki, if_neg k8, if_neg k9, if_neg k10]
          have O5 : Own w w.heap.size [(w1.heap.size, (mqCells (onlyOf m) nilV nilV nilV)), (w.heap.size, (mqCells m (.slice A1 m.codes.length c1) (.slice A2 m.wishes.length c2) (.slice A3 m.filters.length c3)))] w5 := by rw [ho]; exact O5
          refine block_normal ?_
          refine then_normal ?_
          exact ⟨nilV, nilV, nilV, (by rw [hq, q279]; exact H24.keep ⟨rfl, rfl, rfl, trivial⟩), MqL.nil (by rw [ho] <;> rfl) (by rw [ho] <;> rfl) (by rw [ho] <;> rfl), O5⟩
         | false =>
          refine H24.condF rfl ?_
          have ho : onlyOf m = mq0 m.kind := by unfold onlyOf; rw [if_neg k1, if_neg k2, if_neg k3, if_neg ki, if_neg k8, if_neg k9, if_neg k10]
          have hq : okOf m = bareKind m.kind := by unfold okOf; rw [if_neg k1, if_neg k2, if_neg k3, if_neg ki, if_neg k8, if_neg k9, if_neg k10]
          refine H24.rg 1 fun a25 H25 => nt ?_
          refine wp_ret ?_
          repeat (first | (with_reducible refine block_ret ?_) | (with_reducible refine then_ret ?_))
          refine bodyPost_ret (results_tmp rfl _ _ _) H25.df ⟨?_, O5.bel⟩
          have hm : mayBb m = false := by unfold mayBb; rw [hq, q279]; rfl
          rw [hm]
          exact congrArg Ending.returned (H25.at_ 2 _ rfl)
 rintro a9 w4 ⟨vc', vw', vf', H9, hM, O4⟩
 obtain ⟨vo, qo⟩ : ∃ b, okOf m = b := ⟨_, rfl⟩
 rw [qo] at H9
 have hm : mayBb m = (vo && Mq.same m (onlyOf m)) := by unfold mayBb; rw [qo]
 refine rl ?_
 cases vo with
 | false =>
  refine H9.ms 2 fun a11 H11 => ?_
  refine H11.offs 3 rfl ?_
  intro a12 H12
  refine H12.pick gz rfl rfl rfl rfl rfl ?_
  intro a13 H13
  refine H13.ms 1 fun a14 H14 => nt ?_
  refine wp_ret ?_
  repeat (first | (with_reducible refine block_ret ?_) | (with_reducible refine then_ret ?_))
  refine bodyPost_ret (results_tmp rfl _ _ _) H14.df ⟨?_, O4.bel⟩
  rw [hm]
  exact congrArg Ending.returned (H14.at_ 2 _ rfl)
 | true =>
  refine H9.ms 2 fun a11 H11 => ?_
  refine H11.go (H11.wt rfl rfl rfl) rfl rfl _ (run_load rfl (H11.ev rfl) (loadS_run (O4.get 0 rfl))) ?_
  intro a12 H12
  refine H12.go (H12.wt rfl rfl rfl) rfl rfl _ (run_load rfl (H12.ev rfl) (loadS_run (O4.get 1 rfl))) ?_
  intro a13 H13
  refine H13.call (H13.wt rfl rfl rfl) rfl rfl rfl rfl (fun _ _ => by kernel_rfl) (belowC (refEqMq (onlyOf m) m _ _ _ _ _ _ _ hM (hL.next O4.bel))) ?_
  rintro a14 _ w5 ⟨rfl, hb⟩ H14
  have O5 := O4.call hb
  clear hb
  refine H14.pick gz rfl rfl rfl rfl rfl ?_
  intro a15 H15
  refine H15.ms 1 fun a16 H16 => nt ?_
  refine wp_ret ?_
  repeat (first | (with_reducible refine block_ret ?_) | (with_reducible refine then_ret ?_))
  refine bodyPost_ret (results_tmp rfl _ _ _) H16.df ⟨?_, O5.bel⟩
  rw [hm]
  rw [same_symm m (onlyOf m)]
  exact congrArg Ending.returned (H16.at_ 2 _ rfl)
end
end Go.Proofs.YtlacidnnankjlaaGreatDoor
