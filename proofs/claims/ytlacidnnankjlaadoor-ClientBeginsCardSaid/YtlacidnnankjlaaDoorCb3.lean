/-
  The page's ArpBytes, ParseArp.
-/
import Derived.Test.YtlacidnnankjlaaDoorRows
import Derived.ProofKit
import Derived.SizedLaws
import Derived.Carry
import Derived.ChangeSame
import Derived.Deep.Slices
import Derived.Deep.Fields
import Derived.LaidMore
import Derived.LaidLaws
import Derived.Handed
import Derived.Stop.Joined
import Derived.Lib.LaidIn
import Derived.Lib.LaidU8T
import Derived.Test.YtlacidnnankjlaaDoorCb2
namespace Go.Proofs.YtlacidnnankjlaaDoor
open Go.RowKit

theorem bigC (k v : Nat) (hk : k ≤ 7) (hv : v < 9223372036854775808) (w : World) :
    Calls Tryd.prog 41 #[.int .i64 (v : Int), .int .i64 (k : Int)] w fun e w' => ∃ u, e = .returned u ∧ (BytesAre (big k v) u w' ∧ Below w.heap.size w w') :=
  (big_walk (v : Int) (k : Int) v k rfl rfl hk hv w).mono fun _ _ ⟨A', c', h1, h2, h3⟩ => ⟨_, h1, by
    have := (RowIs.of (big_length k v) h2).read
    exact this, h3⟩
theorem conv_one (w : World) : (convert 3 5 (.int .i64 1)).run Tryd.prog w = .ok (.int .u8 1) w := conv_u8 1 w
set_option maxRecDepth 100000 in
set_option maxHeartbeats 1600000 in
theorem pageArpBytes (sm si dm di : Nat) (w : World) (hsm : sm < 281474976710656) (hsi : si < 4294967296) (hdm : dm < 281474976710656) (hdi : di < 4294967296) :
    Calls Tryd.prog 31 #[.agg #[.bool false, .int .i64 (sm : Int), .int .i64 (si : Int), .int .i64 (dm : Int), .int .i64 (di : Int)]] w fun e w' => ∃ v, e = .returned v ∧ (RowIs w.heap.size (arBytes 1 sm si dm di) v w' ∧ Below w.heap.size w w') := by
  go_enter Tryd.func31, Tryd.ntmps31
  refine Has.start 30 [(0, .agg #[.bool false, .int .i64 (sm : Int), .int .i64 (si : Int), .int .i64 (dm : Int), .int .i64 (di : Int)])] rfl rfl ⟨rfl, trivial⟩ ?_
  intro a0 H0
  have O0 := Own.start w
  refine rl ?_
  refine H0.bx O0 1 (L := [.bool false, .int .i64 (sm : Int), .int .i64 (si : Int), .int .i64 (dm : Int), .int .i64 (di : Int)]) fun a1 w1 O1 H1 => nt ?_
  generalize hg : w.heap.size = g at O1 H1
  refine H1.rg 1 fun a2 H2 => nt ?_
  refine rl ?_
  refine H2.go gz rfl rfl _ (run_field rfl (H2.ev rfl) fieldArp_0) fun a H => ?_
  refine H.ld 0 (O1.lb 0 0) fun a H => nt (H.condF rfl (skip_wp (then_normal ?_)))
  obtain ⟨b0, hb0⟩ : ∃ b0, b0 = w1.heap.size := ⟨_, rfl⟩
  have hgb : g < b0 := by rw [hb0]; exact O1.lt 0 rfl
  have ou : ∀ {w' w'' : World}, Own w g [(g, [.bool false, .int .i64 (sm : Int), .int .i64 (si : Int), .int .i64 (dm : Int), .int .i64 (di : Int)])] w' → Below b0 w' w'' → Own w g [(g, [.bool false, .int .i64 (sm : Int), .int .i64 (si : Int), .int .i64 (dm : Int), .int .i64 (di : Int)])] w'' := fun h hb => own_under h hb (Nat.le_of_lt hgb) (fun p hp => by rw [List.mem_singleton.1 hp]; exact hgb)
  refine H.rg 1 fun a H => ?_
  refine H.cv 0 (conv_one _) fun a H => ?_
  refine H.any (w' := w1.alloc (.cells (([0, 1, 8, 0, 6, 4, 0, 1] : List UInt8).map bv).toArray 5)) gz rfl rfl (.slice (some ⟨w1.heap.size, 0, none⟩) 8 8) (by intro cs b h; cases h) (by kernel_rfl) (by kernel_rfl) fun a H => ?_
  have hlit := own_lit w1 (([0, 1, 8, 0, 6, 4, 0, 1] : List UInt8).map bv) 5 1 8 rfl (by decide)
  have hb2 : Below w1.heap.size w1 (w1.alloc (.cells (([0, 1, 8, 0, 6, 4, 0, 1] : List UInt8).map bv).toArray 5)) := balloc _ _
  have hs2 := hb2.size
  generalize w1.alloc (.cells (([0, 1, 8, 0, 6, 4, 0, 1] : List UInt8).map bv).toArray 5) = w2 at *
  have O2 := O1.call hb2
  have hr2 : RowIs b0 ([0, 1, 8, 0, 6, 4] ++ big 2 1) (.slice (some ⟨w1.heap.size, 0, none⟩) 8 8) w2 := ⟨_, _, rfl, by rw [hb0]; exact hlit⟩
  refine H.ms 1 fun a H => nt ?_
  generalize (Value.slice (some ⟨w1.heap.size, 0, none⟩) 8 8) = v2 at *
  have hs2 : b0 ≤ w2.heap.size := by omega
  replace H := H.keep (l' := [(1, .pointer (some ⟨g, 0, none⟩)), (4, v2)]) ⟨rfl, rfl, trivial⟩
  clear H0 H1 H2 O0 O1 hb2 hlit
  refine H.rg 1 fun a H => ?_
  refine H.go gz rfl rfl _ (run_field rfl (H.ev rfl) fieldArp_1) fun a H => ?_
  refine H.ld 0 (O2.li 0 1) fun a H => ?_
  refine H.cl (bigC 6 sm (by decide) (by omega) w2) ?_
  rintro a u3 x3 ⟨hu3, hbu3⟩ H
  have hsu3 := hbu3.size
  refine H.appendRow Tryd.underlying32 info_u8 (gz rfl) rfl rfl rfl rfl rfl (hr2.below hbu3) hu3 (by simp [big_length]) (Nat.le_trans hs2 hsu3) ?_
  intro a v3 w3 H hr3 hb3 _
  have O3 := ou (O2.call hbu3) hb3
  have hs3 : b0 ≤ w3.heap.size := Nat.le_trans (Nat.le_trans hs2 hsu3) hb3.size
  refine H.ms 1 fun a H => nt ?_
  replace H := H.keep (l' := [(1, .pointer (some ⟨g, 0, none⟩)), (4, v3)]) ⟨rfl, rfl, trivial⟩
  refine H.rg 1 fun a H => ?_
  refine H.go gz rfl rfl _ (run_field rfl (H.ev rfl) fieldArp_2) fun a H => ?_
  refine H.ld 0 (O3.li 0 2) fun a H => ?_
  refine H.cl (bigC 4 si (by decide) (by omega) w3) ?_
  rintro a u4 x4 ⟨hu4, hbu4⟩ H
  have hsu4 := hbu4.size
  refine H.appendRow Tryd.underlying32 info_u8 (gz rfl) rfl rfl rfl rfl rfl (hr3.below hbu4) hu4 (by simp [big_length]) (Nat.le_trans hs3 hsu4) ?_
  intro a v4 w4 H hr4 hb4 _
  have O4 := ou (O3.call hbu4) hb4
  have hs4 : b0 ≤ w4.heap.size := Nat.le_trans (Nat.le_trans hs3 hsu4) hb4.size
  refine H.ms 1 fun a H => nt ?_
  replace H := H.keep (l' := [(1, .pointer (some ⟨g, 0, none⟩)), (4, v4)]) ⟨rfl, rfl, trivial⟩
  refine H.rg 1 fun a H => ?_
  refine H.go gz rfl rfl _ (run_field rfl (H.ev rfl) fieldArp_3) fun a H => ?_
  refine H.ld 0 (O4.li 0 3) fun a H => ?_
  refine H.cl (bigC 6 dm (by decide) (by omega) w4) ?_
  rintro a u5 x5 ⟨hu5, hbu5⟩ H
  have hsu5 := hbu5.size
  refine H.appendRow Tryd.underlying32 info_u8 (gz rfl) rfl rfl rfl rfl rfl (hr4.below hbu5) hu5 (by simp [big_length]) (Nat.le_trans hs4 hsu5) ?_
  intro a v5 w5 H hr5 hb5 _
  have O5 := ou (O4.call hbu5) hb5
  have hs5 : b0 ≤ w5.heap.size := Nat.le_trans (Nat.le_trans hs4 hsu5) hb5.size
  refine H.ms 1 fun a H => nt ?_
  replace H := H.keep (l' := [(1, .pointer (some ⟨g, 0, none⟩)), (4, v5)]) ⟨rfl, rfl, trivial⟩
  refine H.rg 1 fun a H => ?_
  refine H.go gz rfl rfl _ (run_field rfl (H.ev rfl) fieldArp_4) fun a H => ?_
  refine H.ld 0 (O5.li 0 4) fun a H => ?_
  refine H.cl (bigC 4 di (by decide) (by omega) w5) ?_
  rintro a u6 x6 ⟨hu6, hbu6⟩ H
  have hsu6 := hbu6.size
  refine H.appendRow Tryd.underlying32 info_u8 (gz rfl) rfl rfl rfl rfl rfl (hr5.below hbu6) hu6 (by simp [big_length]) (Nat.le_trans hs5 hsu6) ?_
  intro a v6 w6 H hr6 hb6 _
  have O6 := ou (O5.call hbu6) hb6
  have hs6 : b0 ≤ w6.heap.size := Nat.le_trans (Nat.le_trans hs5 hsu6) hb6.size
  refine H.ms 1 fun a H => nt (wp_ret ?_)
  repeat (first | (with_reducible refine block_ret ?_) | (with_reducible refine then_ret ?_))
  refine bodyPost_ret (results_tmp rfl _ _ _) H.df ⟨v6, congrArg Ending.returned (H.at_ 2 _ rfl), ?_, O6.bel⟩
  have e : arBytes 1 sm si dm di = [0, 1, 8, 0, 6, 4] ++ big 2 1 ++ big 6 sm ++ big 4 si ++ big 6 dm ++ big 4 di := by simp [arBytes]
  rw [e]
  exact hr6.base (Nat.le_of_lt hgb)
theorem size_arp : (Tryd.prog.info? 39).map (·.size) = some 5 := by kernel_rfl
theorem zero_arp (w : World) : (zeroValue 39).run Tryd.prog w = .ok (.agg ([.bool false, .int .i64 0, .int .i64 0, .int .i64 0, .int .i64 0] : List Value).toArray) w := by kernel_rfl
theorem pageArpBytesC (sm si dm di : Nat) (w : World) (hsm : sm < 281474976710656) (hsi : si < 4294967296) (hdm : dm < 281474976710656) (hdi : di < 4294967296) :
    Calls Tryd.prog 31 #[.agg #[.bool false, .int .i64 (sm : Int), .int .i64 (si : Int), .int .i64 (dm : Int), .int .i64 (di : Int)]] w fun e w' => ∃ v, e = .returned v ∧ (∃ A' c', v = .slice A' 28 c' ∧ RB w' w'.heap.size A' (arBytes 1 sm si dm di) ∧ Below w.heap.size w w') :=
  (pageArpBytes sm si dm di w hsm hsi hdm hdi).mono fun _ _ ⟨v, h1, ⟨A', c', h2, h3⟩, h4⟩ => ⟨v, h1, A', c', by rw [h2, arBytes_length], by
    subst h2
    exact rb_of_own rfl h3 h4.size, h4⟩
set_option maxRecDepth 100000 in
set_option maxHeartbeats 3200000 in
theorem parseArp (sm si dm di : Nat) (A : Option Addr) (c : Nat) (w : World) (hc : 28 ≤ c) (hx : RB w w.heap.size A (arBytes 1 sm si dm di)) (hsm : sm < 281474976710656) (hsi : si < 4294967296) (hdm : dm < 281474976710656) (hdi : di < 4294967296) :
    Calls Tryd.prog 10 #[.slice A 28 c] w fun e w' => ∃ v, e = .returned v ∧ (v = .tuple #[.agg ([.bool false, .int .i64 (sm : Int), .int .i64 (si : Int), .int .i64 (dm : Int), .int .i64 (di : Int)] : List Value).toArray, .int .i64 0] ∧ Below w.heap.size w w') := by
  have hlen := arBytes_length 1 sm si dm di
  obtain ⟨bk, ok, x7, hA, hbk, hx7, hcell⟩ := hx.get (k := 7) (by rw [hlen]; decide)
  have hx7v : x7 = 1 := by
    have h1 : (arBytes 1 sm si dm di)[7]? = some 1 := rfl
    rw [h1] at hx7
    injection hx7 with h; exact h.symm
  subst hx7v
  have q1 : ofB (((arBytes 1 sm si dm di).drop 8).take 6) = sm := ar_8 1 sm si dm di hsm
  have q2 : ofB (((arBytes 1 sm si dm di).drop 14).take 4) = si := ar_14 1 sm si dm di hsi
  have q3 : ofB (((arBytes 1 sm si dm di).drop 18).take 6) = dm := ar_18 1 sm si dm di hdm
  have q4 : ofB (((arBytes 1 sm si dm di).drop 24).take 4) = di := ar_24 1 sm si dm di hdi
  have KK := fun wy => pageArpBytesC sm si dm di wy hsm hsi hdm hdi
  generalize arBytes 1 sm si dm di = xs at *
  go_enter Tryd.func10, Tryd.ntmps10
  refine Has.start 34 [(0, .slice A 28 c)] rfl rfl ⟨rfl, trivial⟩ ?_
  intro a0 H0
  have O0 := Own.start w
  refine rl ?_
  refine H0.al O0 1 zero_arp fun a1 w1 O1 H1 => nt ?_
  generalize hg : w.heap.size = g at O1 H1
  have bl : ∀ {w' : World} {bs : List (Nat × List Value)}, Own w g bs w' → Below w.heap.size w w' := fun h => hg ▸ h.bel
  refine H1.rg 1 fun a2 H2 => ?_
  refine H2.len gz rfl rfl rfl rfl Tryd.underlying32 fun a3 H3 => ?_
  refine H3.bb 0 rfl rfl rfl rfl rfl rfl (lss_i _ _ false (by decide) _ _ _) rfl fun a4 H4 => nt (H4.condF rfl (skip_wp (then_normal ?_)))
  replace H4 := H4.keep (l' := [(0, .slice A 28 c), (2, .pointer (some ⟨g, 0, none⟩))]) ⟨rfl, rfl, trivial⟩
  have rr : ∀ (k m : Nat), k + m ≤ 28 → ∀ {w' : World}, Below w.heap.size w w' → RB w' w'.heap.size (if c = k then A else A.map (·.add k)) ((xs.drop k).take m) := fun k m hk _ h => by
    have := ((hx.next h).take (k + m)).cut (k := k) (cap := c) (by rw [List.length_take]; omega) (by rw [List.length_take]; omega)
    rw [take_drop6] at this
    exact this
  have ll : ∀ (k m : Nat), k + m ≤ 28 → ((xs.drop k).take m).length = m := fun k m hk => by rw [List.length_take, List.length_drop]; omega
  have hix : ∀ w', (Instr.indexAt 32 (.slice A 28 c) (.int .i64 7)).run Tryd.prog w' = .ok (.pointer (some ⟨bk, ok + 7, none⟩)) w' := fun w' => by rw [hA]; exact index_1 32 Tryd.underlying32 (fun _ => by kernel_rfl) _ _ _ _ 7 (by decide) _
  refine H4.sg (fun w' => Own w g [(g, [.bool false, .int .i64 0, .int .i64 0, .int .i64 0, .int .i64 0])] w') O1.drew [0, 2]
    [ec 0 9 (.slice A 28 c), ec 1 10 (.pointer (some ⟨bk, ok + 7, none⟩)), ec 2 11 (.int .u8 1), ec 3 12 (.bool false), ec 4 13 (.slice A 28 c), ec 5 14 (.slice (if c = 8 then A else A.map (·.add 8)) 6 (c - 8)), ec 6 15 (.int .i64 (sm : Int)), ec 7 16 (.slice A 28 c), ec 8 17 (.slice (if c = 14 then A else A.map (·.add 14)) 4 (c - 14)), ec 9 18 (.int .i64 (si : Int)),
     ec 10 19 (.slice A 28 c), ec 11 20 (.slice (if c = 18 then A else A.map (·.add 18)) 6 (c - 18)), ec 12 21 (.int .i64 (dm : Int)), ec 13 22 (.slice A 28 c), ec 14 23 (.slice (if c = 24 then A else A.map (·.add 24)) 4 (c - 24)), ec 15 24 (.int .i64 (di : Int)), ec 16 25 (.agg ([.bool false, .int .i64 (sm : Int), .int .i64 (si : Int), .int .i64 (dm : Int), .int .i64 (di : Int)] : List Value).toArray), er 17 4 [] (BoxQ (g + 1) 39 [.bool false, .int .i64 0, .int .i64 0, .int .i64 0, .int .i64 0])] rfl ?_
  refine St.sto 18 ⟨jm, jI rfl rfl rfl rfl rfl rfl hix, jl fun _ h => load1_u _ _ _ _ ((cellB (bl h) hbk).trans hcell), jb fun _ => eql_u 1 2 false rfl _ _ _, jm, js2 fun _ => slice_lh A 28 c 8 14 (by decide) (by decide) hc _, jq fun w' h => q1 ▸ ofW ((xs.drop 8).take 6) 6 (ll 8 6 (by decide)) _ _ w' (rr 8 6 (by decide) (bl h)) (by decide), jm, js2 fun _ => slice_lh A 28 c 14 18 (by decide) (by decide) hc _, jq fun w' h => q2 ▸ ofW ((xs.drop 14).take 4) 4 (ll 14 4 (by decide)) _ _ w' (rr 14 4 (by decide) (bl h)) (by decide), jm, js2 fun _ => slice_lh A 28 c 18 24 (by decide) (by decide) hc _, jq fun w' h => q3 ▸ ofW ((xs.drop 18).take 6) 6 (ll 18 6 (by decide)) _ _ w' (rr 18 6 (by decide) (bl h)) (by decide), jm, js2 fun _ => slice_lh A 28 c 24 28 (by decide) (by decide) hc _, jq fun w' h => q4 ▸ ofW ((xs.drop 24).take 4) 4 (ll 24 4 (by decide)) _ _ w' (rr 24 4 (by decide) (bl h)) (by decide),
    ja (fun _ => by kernel_rfl), ka zero_arp (fun _ h => h.lt 0 rfl), trivial⟩ ?_ (hF := .inr fun _ _ h hb => h.call hb) (hst := ⟨fun _ _ _ hb h => h.below hb, trivial⟩)
  rintro a5 wu H5 ⟨⟨g2, e6, hg1, hg2, hC, _⟩, _⟩ Ou
  obtain ⟨w', hr, hgr, hs, hC'⟩ := hC.sto (L := [.bool false, .int .i64 (sm : Int), .int .i64 (si : Int), .int .i64 (dm : Int), .int .i64 (di : Int)]) size_arp rfl rfl rfl
  have Ow : Own w g [(g2, [.bool false, .int .i64 (sm : Int), .int .i64 (si : Int), .int .i64 (dm : Int), .int .i64 (di : Int)]), (g, [.bool false, .int .i64 0, .int .i64 0, .int .i64 0, .int .i64 0])] w' := by
    refine ⟨Ou.bel.grown hgr Ou.le (fun k hk => by injection hk with hk; omega), Nat.le_trans Ou.le hgr.size, by simp; omega, fun p hp => ?_⟩
    rcases List.mem_cons.1 hp with rfl | hp
    · exact ⟨by show g ≤ g2; omega, by show g2 < w'.heap.size; omega, hC'⟩
    · have hm := Ou.mem p hp
      have hp1 : p.1 = g := by rw [List.mem_singleton.1 hp]
      exact ⟨hm.1, Nat.lt_of_lt_of_le hm.2.1 hgr.size, hm.2.2.kept hgr hm.2.1 (by rw [hp1]; intro e; injection e with e; omega)⟩
  refine ⟨w', run_store rfl e6 (H5.ev rfl) hr, nxp (fun w' => Own w g [(g2, [.bool false, .int .i64 (sm : Int), .int .i64 (si : Int), .int .i64 (dm : Int), .int .i64 (di : Int)]), (g, [.bool false, .int .i64 0, .int .i64 0, .int .i64 0, .int .i64 0])] w') [ec 17 4 (.pointer (some ⟨g2, 0, none⟩))] [] [17] Ow ⟨⟨rfl, rfl, _, rfl, e6⟩, trivial⟩ ?_⟩
  refine St.fin trivial ?_ (hF := .inl rfl)
  rintro a6 w2 H6 _ O2
  refine then_normal ?_
  replace H6 := H6.keep (l' := [(0, .slice A 28 c), (2, .pointer (some ⟨g, 0, none⟩)), (4, .pointer (some ⟨g2, 0, none⟩))]) ⟨rfl, rfl, rfl, trivial⟩
  clear H0 H1 H2 H3 H4 H5 O1 hr hgr hs hC' Ow hC hg2 e6 Ou
  refine H6.sg (fun w' => Own w g [(g2, [.bool false, .int .i64 (sm : Int), .int .i64 (si : Int), .int .i64 (dm : Int), .int .i64 (di : Int)]), (g, [.bool false, .int .i64 0, .int .i64 0, .int .i64 0, .int .i64 0])] w') O2.drew [0, 2, 4] [ec 0 26 (.agg ([.bool false, .int .i64 (sm : Int), .int .i64 (si : Int), .int .i64 (dm : Int), .int .i64 (di : Int)] : List Value).toArray), ec 2 28 (.slice A 28 c), ec 3 29 (.slice A 28 c)] rfl ?_
  refine St.call 1 ⟨jl fun _ h => loadT (h.get 0 rfl) Tryd.underlying39 rfl size_arp rfl, jm, jh fun _ => slice_h A 28 c 28 (by decide) hc _, trivial⟩ (fun wy _ => KK wy) ?_
  rintro wy _ wz hh ⟨A5, c5, rfl, hr5, hb⟩
  refine nx (fun w' => Own w g [(g2, [.bool false, .int .i64 (sm : Int), .int .i64 (si : Int), .int .i64 (dm : Int), .int .i64 (di : Int)]), (g, [.bool false, .int .i64 0, .int .i64 0, .int .i64 0, .int .i64 0])] w' ∧ RB w' w'.heap.size A5 xs) [] [] ⟨hh.call hb, hr5⟩ ?_
  refine St.call 4 ⟨jm, jh fun _ => slice_h A 28 c 28 (by decide) hc _, trivial⟩ (fun wy h => belowC (eqBytesN xs 28 hlen A5 A c5 c wy h.2 (hx.next (bl h.1)) (by decide))) ?_
  rintro wy _ wz hh ⟨rfl, hb⟩
  refine nx (fun w' => Own w g [(g2, [.bool false, .int .i64 (sm : Int), .int .i64 (si : Int), .int .i64 (dm : Int), .int .i64 (di : Int)]), (g, [.bool false, .int .i64 0, .int .i64 0, .int .i64 0, .int .i64 0])] w') [ec 5 31 (.bool false)] [] (hh.1.call hb) ?_
  refine St.fin ⟨ju (hq := run_not true), trivial⟩ ?_ (hF := .inl rfl)
  rintro a7 w3 H7 _ O3
  refine then_normal (H7.condF rfl (skip_wp (then_normal ?_)))
  refine rl ?_
  refine H7.ld 0 (loadT (O3.get 0 rfl) Tryd.underlying39 rfl size_arp rfl) fun a H => ?_
  refine H.st O3 1 1 (L := [.bool false, .int .i64 (sm : Int), .int .i64 (si : Int), .int .i64 (dm : Int), .int .i64 (di : Int)]) (fun a w4 O4 H => nt (wp_ret ?_)) size_arp
  repeat (first | (with_reducible refine block_ret ?_) | (with_reducible refine then_ret ?_))
  exact bodyPost_ret (results_two Tryd.results10 _ _ _ (H.at_ 2 _ rfl) (H.at_ 3 _ rfl) (O4.get 1 rfl) Tryd.underlying39 rfl _ size_arp rfl) H.df ⟨_, rfl, rfl, O4.bel⟩
end Go.Proofs.YtlacidnnankjlaaDoor

/-
  The page's Seg: the segment that a frame carries.
-/
namespace Go.Proofs.YtlacidnnankjlaaDoor
open Go.RowKit

/-- a segment and whether it is one, its bytes in the call's own memory. -/
def SegRes (w : World) (r : Sg × Bool) (v : Value) (w' : World) : Prop :=
  ∃ A c, v = .tuple #[.agg #[.int .i64 r.1.sp, .int .i64 r.1.dp, .int .i64 r.1.sq, .int .i64 r.1.ak, .int .i64 r.1.fl, .int .i64 r.1.wn, .slice A r.1.xs.length c], .bool r.2] ∧ w'.ownsRow w.heap.size 5 1 (.slice A r.1.xs.length c) r.1.xs.length (r.1.xs.map bv) ∧ Below w.heap.size w w'
theorem size_sg : (Tryd.prog.info? 43).map (·.size) = some 7 := by kernel_rfl
theorem zero_sg (w : World) : (zeroValue 43).run Tryd.prog w = .ok (.agg ([.int .i64 0, .int .i64 0, .int .i64 0, .int .i64 0, .int .i64 0, .int .i64 0, nilV] : List Value).toArray) w := by kernel_rfl
theorem size_pk : (Tryd.prog.info? 70).map (·.size) = some 6 := by kernel_rfl
theorem zero_pk (w : World) : (zeroValue 70).run Tryd.prog w = .ok (.agg ([.int .i64 0, .int .i64 0, .int .i64 0, .int .i64 0, .int .i64 0, nilV] : List Value).toArray) w := by kernel_rfl
theorem parsePkC (xs : List UInt8) (n : Nat) (hl : xs.length = n) (A : Option Addr) (c : Nat) (hnc : n ≤ c) (w : World) (hx : RB w w.heap.size A xs) (hn : n ≤ 140737488351232) (ps pd pp pt pi er : Int) (zs : List UInt8) (hp : parseOut xs = (⟨ps, pd, pp, pt, pi, zs⟩, er)) :
    Calls Tryd.prog 36 #[.slice A n c] w fun e w' => ∃ v, e = .returned v ∧ (∃ A2 c2, v = .tuple #[.agg ([.int .i64 ps, .int .i64 pd, .int .i64 pp, .int .i64 pt, .int .i64 pi, .slice A2 zs.length c2] : List Value).toArray, .int .i64 er] ∧ w'.ownsRow w.heap.size 5 1 (.slice A2 zs.length c2) zs.length (zs.map bv) ∧ Below w.heap.size w w') := by
  have h := refParsePk xs n hl A c hnc w hx hn
  rw [hp] at h
  exact h.mono fun _ _ ⟨A', c', h1, h2⟩ => ⟨_, h1, A', c', rfl, h2⟩
theorem parseSgC (src dst : Int) (xs : List UInt8) (n : Nat) (hl : xs.length = n) (A : Option Addr) (c : Nat) (hnc : n ≤ c) (w : World) (hx : RB w w.heap.size A xs) (hn : n ≤ 140737488351232) (q : Sg) (er : Int) (hp : segOut src dst xs = (q, er)) :
    Calls Tryd.prog 37 #[.int .i64 src, .int .i64 dst, .slice A n c] w fun e w' => ∃ v, e = .returned v ∧ (∃ A3 c3, v = .tuple #[.agg ([.int .i64 q.sp, .int .i64 q.dp, .int .i64 q.sq, .int .i64 q.ak, .int .i64 q.fl, .int .i64 q.wn, .slice A3 q.xs.length c3] : List Value).toArray, .int .i64 er] ∧ w'.ownsRow w.heap.size 5 1 (.slice A3 q.xs.length c3) q.xs.length (q.xs.map bv) ∧ Below w.heap.size w w') := by
  have h := refParseSeg src dst xs n hl A c hnc w hx hn
  rw [hp] at h
  exact h.mono fun _ _ ⟨A', c', h1, h2⟩ => ⟨_, h1, A', c', rfl, h2⟩
theorem parseOut_len (xs : List UInt8) : (parseOut xs).1.xs.length ≤ xs.length := by
  unfold parseOut
  repeat' split
  all_goals simp [Pk.zero, parsed]
  all_goals omega
theorem neq_ii (u v : Int) (x y : Operand) (w : World) : (do eqGuard .neq 3 x y (.int .i64 u) (.int .i64 v); binOp .neq 3 (.int .i64 u) (.int .i64 v) : Sem Value).run Tryd.prog w = .ok (.bool (u != v)) w := neq_3 u v _ rfl x y w
theorem eql_ii (u v : Int) (x y : Operand) (w : World) : (do eqGuard .eql 3 x y (.int .i64 u) (.int .i64 v); binOp .eql 3 (.int .i64 u) (.int .i64 v) : Sem Value).run Tryd.prog w = .ok (.bool (u == v)) w := eql_iB u v _ rfl x y w
set_option maxRecDepth 100000 in
set_option maxHeartbeats 3200000 in
theorem pageSeg (xs : List UInt8) (n : Nat) (hn : xs.length = n) (A : Option Addr) (c : Nat) (hnc : n ≤ c) (src sport dst dport : Int) (w : World) (hx : RB w w.heap.size A xs) (hl : n ≤ 140737488351232) :
    Calls Tryd.prog 24 #[.slice A n c, .int .i64 src, .int .i64 sport, .int .i64 dst, .int .i64 dport] w fun e w' => ∃ v, e = .returned v ∧ SegRes w (segTo xs src sport dst dport) v w' := by
  rcases hf : frOut xs with ⟨⟨fd, fs, ft, ys⟩, e1⟩
  have hyl : ys.length ≤ n := by have := frOut_len xs; rw [hf] at this; rw [← hn]; exact this
  rcases hp : parseOut ys with ⟨⟨ps, pd, pp, pt, pi, zs⟩, e2⟩
  have hzl : zs.length ≤ n := by have := parseOut_len ys; rw [hp] at this; exact Nat.le_trans this hyl
  rcases hs : segOut src dst zs with ⟨q, e3⟩
  have hst : segTo xs src sport dst dport = if ((e1 != 0) || ((ft : Int) != 2048)) = true then (Sg.zero, false) else if ((((e2 != 0) || (ps != src)) || (pd != dst)) || (pp != 6)) = true then (Sg.zero, false) else (q, ((e3 == 0) && (q.sp == sport)) && (q.dp == dport)) := by
    unfold segTo
    rw [hf]
    simp only [hp, hs]
    have h1 : (e1 ≠ 0 ∨ ft ≠ 2048) ↔ ((e1 != 0) || ((ft : Int) != 2048)) = true := by
      simp only [Bool.or_eq_true, bne_iff_ne, ne_eq]
      omega
    have h2 : (e2 ≠ 0 ∨ ps ≠ src ∨ pd ≠ dst ∨ pp ≠ 6) ↔ ((((e2 != 0) || (ps != src)) || (pd != dst)) || (pp != 6)) = true := by
      simp only [Bool.or_eq_true, bne_iff_ne, ne_eq, or_assoc]
    simp only [h1, h2, Bool.and_assoc]
  rw [hst]
  clear hst
  go_enter Tryd.func24, Tryd.ntmps24
  refine Has.start 78 [(0, .slice A n c), (1, .int .i64 src), (2, .int .i64 sport), (3, .int .i64 dst), (4, .int .i64 dport)] rfl rfl ⟨rfl, rfl, rfl, rfl, rfl, trivial⟩ ?_
  intro a0 H0
  have O0 := Own.start w
  refine rl ?_
  refine H0.al O0 1 zero_sg fun a1 w1 O1 H1 => nt ?_
  generalize hg : w.heap.size = g at O1 H1
  have bl : ∀ {w' : World} {bs : List (Nat × List Value)}, Own w g bs w' → Below w.heap.size w w' := fun h => hg ▸ h.bel
  refine H1.rg 1 fun a2 H2 => ?_
  refine H2.cl (parseFrame xs n hn A c hnc w1 (hx.next (bl O1)) hl) ?_
  rintro a3 _ w2 ⟨A1, c1, hv, hO2, hb2⟩ H3
  rw [hf] at hv hO2
  subst hv
  have hr2 := rb_of_own rfl hO2 hb2.size
  have hc2 := own_cap hO2
  have O2 := O1.call hb2
  clear hO2 hb2
  refine H3.ms 1 fun a4 H4 => ?_
  refine H4.ex (r := .agg ([.int .i64 (fd : Int), .int .i64 (fs : Int), .int .i64 (ft : Int), .slice A1 ys.length c1] : List Value).toArray) 0 fun a5 H5 => ?_
  refine H5.ex (r := .int .i64 e1) 0 fun a6 H6 => ?_
  refine H6.nk O2 1 (L := [.int .i64 (fd : Int), .int .i64 (fs : Int), .int .i64 (ft : Int), .slice A1 ys.length c1]) rfl zero_frm size_frm fun a7 w3 hb3 O3 _ H7 => nt ?_
  have hr3 := hr2.next hb3
  generalize w2.heap.size = g2 at O3 H7
  replace H7 := H7.keep (l' := [(1, .int .i64 src), (2, .int .i64 sport), (3, .int .i64 dst), (4, .int .i64 dport), (10, .pointer (some ⟨g, 0, none⟩)), (12, .pointer (some ⟨g2, 0, none⟩)), (13, .int .i64 e1)]) ⟨rfl, rfl, rfl, rfl, rfl, rfl, rfl, trivial⟩
  clear H1 H2 H3 H4 H5 H6 O2 hb3 hr2
  obtain ⟨x1, hx1⟩ : ∃ b, (e1 != 0) = b := ⟨_, rfl⟩
  obtain ⟨x2, hx2⟩ : ∃ b, ((ft : Int) != 2048) = b := ⟨_, rfl⟩
  rw [hx1, hx2]
  refine H7.tb (fun w' => Own w g [(g2, [.int .i64 (fd : Int), .int .i64 (fs : Int), .int .i64 (ft : Int), .slice A1 ys.length c1]), (g, [.int .i64 0, .int .i64 0, .int .i64 0, .int .i64 0, .int .i64 0, .int .i64 0, nilV])] w' ∧ RB w' w'.heap.size A1 ys) (fun _ _ h hb => ⟨h.1.call hb, h.2.next hb⟩) ⟨O3, hr3⟩
    [ec 0 21 (.int .i64 e1), ec 1 22 (.bool x1), ec 2 23 (.bool x1), ec 3 24 (gv (!x1) (.pointer (some ⟨g2, 2, none⟩))), ec 4 25 (gv (!x1) (.int .i64 (ft : Int))), ec 5 26 (gv (!x1) (.bool x2)), ec 6 27 (.bool (x1 || x2))] rfl
    ⟨jm, jb fun _ => neq_3 _ _ x1 hx1 _ _ _, jm, (by cases x1; exact jm; exact jo), (by cases x1; exact jl fun _ h => h.1.li 0 2; exact jo), (by cases x1; exact jb fun _ => neq_3 _ _ x2 hx2 _ _ _; exact jo), (by cases x1 <;> exact jp), trivial⟩ ?_
  clear H7 O3 hr3
  rintro a8 w4 H8 ⟨O4, hr4⟩
  refine then_normal (H8.cond (t := x1 || x2) rfl ?_)
  replace H8 := H8.keep (l' := [(1, .int .i64 src), (2, .int .i64 sport), (3, .int .i64 dst), (4, .int .i64 dport), (10, .pointer (some ⟨g, 0, none⟩)), (12, .pointer (some ⟨g2, 0, none⟩))]) ⟨rfl, rfl, rfl, rfl, rfl, rfl, trivial⟩
  cases hxx : x1 || x2 with
  | true =>
    refine rl ?_
    refine H8.any (w' := w4) gz rfl rfl (.agg ([.int .i64 0, .int .i64 0, .int .i64 0, .int .i64 0, .int .i64 0, .int .i64 0, nilV] : List Value).toArray) (by intro cs b h; cases h) (by kernel_rfl) (by kernel_rfl) fun a9 H9 => ?_
    refine H9.st O4 1 1 (L := [.int .i64 0, .int .i64 0, .int .i64 0, .int .i64 0, .int .i64 0, .int .i64 0, nilV]) (fun a10 w5 O5 H10 => nt (wp_ret ?_)) size_sg
    repeat (first | (with_reducible refine block_ret ?_) | (with_reducible refine then_ret ?_))
    refine bodyPost_ret (results_two Tryd.results24 _ _ _ (H10.at_ 10 _ rfl) (H10.at_ 11 _ rfl) (O5.get 1 rfl) Tryd.underlying43 rfl _ size_sg rfl) H10.df ⟨_, rfl, ?_⟩
    rw [if_pos rfl]
    exact ⟨none, 0, rfl, World.ownsRow_nil _ _ _ _, bl O5⟩
  | false =>
  rw [if_neg (by decide)]
  refine skip_wp (then_normal ?_)
  refine rl ?_
  refine H8.ms 1 fun a H => ?_
  refine H.ld 0 (load1_31 _ _ _ _ _ _ ((O4.get 0 rfl).get 3 _ rfl)) fun a H => ?_
  refine H.cl (parsePkC ys ys.length rfl A1 c1 hc2 w4 hr4 (by omega) ps pd pp pt pi e2 zs hp) ?_
  rintro a9 _ w5 ⟨A2, c2, rfl, hO5, hb5⟩ H9
  have hr5 := rb_of_own rfl hO5 hb5.size
  have hc5 := own_cap hO5
  have O5 := O4.call hb5
  clear hO5 hb5 hr4
  refine H9.ms 1 fun a10 H10 => ?_
  refine H10.ex (r := .agg ([.int .i64 ps, .int .i64 pd, .int .i64 pp, .int .i64 pt, .int .i64 pi, .slice A2 zs.length c2] : List Value).toArray) 0 fun a11 H11 => ?_
  refine H11.ex (r := .int .i64 e2) 0 fun a12 H12 => ?_
  refine H12.nk O5 1 (L := [.int .i64 ps, .int .i64 pd, .int .i64 pp, .int .i64 pt, .int .i64 pi, .slice A2 zs.length c2]) rfl zero_pk size_pk fun a13 w6 hb6 O6 _ H13 => nt ?_
  have hr6 := hr5.next hb6
  generalize w5.heap.size = g5 at O6 H13
  replace H13 := H13.keep (l' := [(1, .int .i64 src), (2, .int .i64 sport), (3, .int .i64 dst), (4, .int .i64 dport), (10, .pointer (some ⟨g, 0, none⟩)), (13, .int .i64 e2), (14, .pointer (some ⟨g5, 0, none⟩))]) ⟨rfl, rfl, rfl, rfl, rfl, rfl, rfl, trivial⟩
  clear H8 H9 H10 H11 H12 H O5 hb6 hr5
  obtain ⟨y1, hy1⟩ : ∃ b, (e2 != 0) = b := ⟨_, rfl⟩
  obtain ⟨y2, hy2⟩ : ∃ b, (ps != src) = b := ⟨_, rfl⟩
  obtain ⟨y3, hy3⟩ : ∃ b, (pd != dst) = b := ⟨_, rfl⟩
  obtain ⟨y4, hy4⟩ : ∃ b, (pp != 6) = b := ⟨_, rfl⟩
  rw [hy1, hy2, hy3, hy4]
  refine H13.tb (fun w' => Own w g [(g5, [.int .i64 ps, .int .i64 pd, .int .i64 pp, .int .i64 pt, .int .i64 pi, .slice A2 zs.length c2]), (g2, [.int .i64 (fd : Int), .int .i64 (fs : Int), .int .i64 (ft : Int), .slice A1 ys.length c1]), (g, [.int .i64 0, .int .i64 0, .int .i64 0, .int .i64 0, .int .i64 0, .int .i64 0, nilV])] w' ∧ RB w' w'.heap.size A2 zs) (fun _ _ h hb => ⟨h.1.call hb, h.2.next hb⟩) ⟨O6, hr6⟩
    [ec 0 35 (.int .i64 e2), ec 1 36 (.bool y1), ec 2 37 (.bool y1), ec 3 38 (gv (!y1) (.pointer (some ⟨g5, 0, none⟩))), ec 4 39 (gv (!y1) (.int .i64 ps)), ec 5 40 (gv (!y1) (.int .i64 src)), ec 6 41 (gv (!y1) (.bool y2)), ec 7 42 (.bool (y1 || y2)), ec 8 43 (.bool (y1 || y2)),
     ec 9 44 (gv (!(y1 || y2)) (.pointer (some ⟨g5, 1, none⟩))), ec 10 45 (gv (!(y1 || y2)) (.int .i64 pd)), ec 11 46 (gv (!(y1 || y2)) (.int .i64 dst)), ec 12 47 (gv (!(y1 || y2)) (.bool y3)), ec 13 48 (.bool ((y1 || y2) || y3)), ec 14 49 (.bool ((y1 || y2) || y3)),
     ec 15 50 (gv (!((y1 || y2) || y3)) (.pointer (some ⟨g5, 2, none⟩))), ec 16 51 (gv (!((y1 || y2) || y3)) (.int .i64 pp)), ec 17 52 (gv (!((y1 || y2) || y3)) (.bool y4)), ec 18 53 (.bool (((y1 || y2) || y3) || y4))] rfl
    ⟨jm, jb fun _ => neq_3 _ _ y1 hy1 _ _ _, jm, (by cases y1; exact jm; exact jo), (by cases y1; exact jl fun _ h => h.1.li 0 0; exact jo), (by cases y1; exact jm; exact jo), (by cases y1; exact jb fun _ => neq_3 _ _ y2 hy2 _ _ _; exact jo), (by cases y1 <;> exact jp), jm,
     (by cases y1 <;> cases y2 <;> first | exact jo | exact jm), (by cases y1 <;> cases y2 <;> first | exact jo | exact jl fun _ h => h.1.li 0 1), (by cases y1 <;> cases y2 <;> first | exact jo | exact jm), (by cases y1 <;> cases y2 <;> first | exact jo | exact jb fun _ => neq_3 _ _ y3 hy3 _ _ _), (by cases y1 <;> cases y2 <;> exact jp), jm,
     (by cases y1 <;> cases y2 <;> cases y3 <;> first | exact jo | exact jm), (by cases y1 <;> cases y2 <;> cases y3 <;> first | exact jo | exact jl fun _ h => h.1.li 0 2), (by cases y1 <;> cases y2 <;> cases y3 <;> first | exact jo | exact jb fun _ => neq_3 _ _ y4 hy4 _ _ _), (by cases y1 <;> cases y2 <;> cases y3 <;> exact jp), trivial⟩ ?_
  clear H13 O6 hr6
  rintro a14 w7 H14 ⟨O7, hr7⟩
  refine then_normal (H14.cond (t := ((y1 || y2) || y3) || y4) rfl ?_)
  replace H14 := H14.keep (l' := [(1, .int .i64 src), (2, .int .i64 sport), (3, .int .i64 dst), (4, .int .i64 dport), (10, .pointer (some ⟨g, 0, none⟩)), (14, .pointer (some ⟨g5, 0, none⟩))]) ⟨rfl, rfl, rfl, rfl, rfl, rfl, trivial⟩
  cases hyy : ((y1 || y2) || y3) || y4 with
  | true =>
    refine rl ?_
    refine H14.any (w' := w7) gz rfl rfl (.agg ([.int .i64 0, .int .i64 0, .int .i64 0, .int .i64 0, .int .i64 0, .int .i64 0, nilV] : List Value).toArray) (by intro cs b h; cases h) (by kernel_rfl) (by kernel_rfl) fun a15 H15 => ?_
    refine H15.st O7 2 1 (L := [.int .i64 0, .int .i64 0, .int .i64 0, .int .i64 0, .int .i64 0, .int .i64 0, nilV]) (fun a16 w8 O8 H16 => nt (wp_ret ?_)) size_sg
    repeat (first | (with_reducible refine block_ret ?_) | (with_reducible refine then_ret ?_))
    refine bodyPost_ret (results_two Tryd.results24 _ _ _ (H16.at_ 10 _ rfl) (H16.at_ 11 _ rfl) (O8.get 2 rfl) Tryd.underlying43 rfl _ size_sg rfl) H16.df ⟨_, rfl, ?_⟩
    rw [if_pos rfl]
    exact ⟨none, 0, rfl, World.ownsRow_nil _ _ _ _, bl O8⟩
  | false =>
  rw [if_neg (by decide)]
  refine skip_wp (then_normal ?_)
  refine H14.rg 3 fun a H => ?_
  refine H.ld 0 (load1_31 _ _ _ _ _ _ ((O7.get 0 rfl).get 5 _ rfl)) fun a H => ?_
  refine H.cl (parseSgC src dst zs zs.length rfl A2 c2 hc5 w7 hr7 (by omega) q e3 hs) ?_
  rintro a15 _ w8 ⟨A3, c3, rfl, hO8, hb8⟩ H15
  have O8 := O7.call hb8
  have hs7 : g < w7.heap.size := O7.lt 2 rfl
  clear hr7
  refine H15.ms 1 fun a16 H16 => ?_
  refine H16.ex (r := .agg ([.int .i64 q.sp, .int .i64 q.dp, .int .i64 q.sq, .int .i64 q.ak, .int .i64 q.fl, .int .i64 q.wn, .slice A3 q.xs.length c3] : List Value).toArray) 0 fun a17 H17 => ?_
  refine H17.ex (r := .int .i64 e3) 0 fun a18 H18 => ?_
  refine H18.nk O8 1 (L := [.int .i64 q.sp, .int .i64 q.dp, .int .i64 q.sq, .int .i64 q.ak, .int .i64 q.fl, .int .i64 q.wn, .slice A3 q.xs.length c3]) rfl zero_sg size_sg fun a19 w9 hb9 O9 _ H19 => nt ?_
  have hO9 := own_below hO8 hb9
  generalize w8.heap.size = g8 at O9 H19
  replace H19 := H19.keep (l' := [(2, .int .i64 sport), (4, .int .i64 dport), (10, .pointer (some ⟨g, 0, none⟩)), (13, .int .i64 e3), (15, .pointer (some ⟨g8, 0, none⟩))]) ⟨rfl, rfl, rfl, rfl, rfl, trivial⟩
  clear H14 H15 H16 H17 H18 H O8 hb9 hO8
  obtain ⟨z1, hz1⟩ : ∃ b, (e3 == 0) = b := ⟨_, rfl⟩
  obtain ⟨z2, hz2⟩ : ∃ b, (q.sp == sport) = b := ⟨_, rfl⟩
  obtain ⟨z3, hz3⟩ : ∃ b, (q.dp == dport) = b := ⟨_, rfl⟩
  rw [hz1, hz2, hz3]
  generalize w7.heap.size = bb at hO9 hs7
  refine H19.sg (fun w' => Own w g [(g8, [.int .i64 q.sp, .int .i64 q.dp, .int .i64 q.sq, .int .i64 q.ak, .int .i64 q.fl, .int .i64 q.wn, .slice A3 q.xs.length c3]), (g5, [.int .i64 ps, .int .i64 pd, .int .i64 pp, .int .i64 pt, .int .i64 pi, .slice A2 zs.length c2]), (g2, [.int .i64 (fd : Int), .int .i64 (fs : Int), .int .i64 (ft : Int), .slice A1 ys.length c1]), (g, [.int .i64 0, .int .i64 0, .int .i64 0, .int .i64 0, .int .i64 0, .int .i64 0, nilV])] w' ∧ w'.ownsRow bb 5 1 (.slice A3 q.xs.length c3) q.xs.length (q.xs.map bv)) ⟨O9.drew, hO9⟩ [2, 4, 10, 13, 15]
    [ec 0 63 (.agg ([.int .i64 q.sp, .int .i64 q.dp, .int .i64 q.sq, .int .i64 q.ak, .int .i64 q.fl, .int .i64 q.wn, .slice A3 q.xs.length c3] : List Value).toArray), ec 1 64 (.int .i64 e3), ec 2 65 (.bool z1), ec 3 66 (.bool z1), ec 4 67 (gv z1 (.pointer (some ⟨g8, 0, none⟩))), ec 5 68 (gv z1 (.int .i64 q.sp)), ec 6 69 (gv z1 (.int .i64 sport)), ec 7 70 (gv z1 (.bool z2)), ec 8 71 (.bool (z1 && z2)), ec 9 72 (.bool (z1 && z2)),
     ec 10 73 (gv (z1 && z2) (.pointer (some ⟨g8, 1, none⟩))), ec 11 74 (gv (z1 && z2) (.int .i64 q.dp)), ec 12 75 (gv (z1 && z2) (.int .i64 dport)), ec 13 76 (gv (z1 && z2) (.bool z3)), ec 14 77 (.bool ((z1 && z2) && z3)), ec 16 11 (.bool ((z1 && z2) && z3))] rfl ?_
  refine St.sto 15 ⟨jl fun _ h => loadT (h.1.get 0 rfl) Tryd.underlying43 rfl size_sg rfl, jm, jb fun _ => eql_iB _ _ z1 hz1 _ _ _, jm, (by cases z1; exact jo; exact jm), (by cases z1; exact jo; exact jl fun _ h => h.1.li 0 0), (by cases z1; exact jo; exact jm), (by cases z1; exact jo; exact jb fun _ => eql_iB _ _ z2 hz2 _ _ _), (by cases z1 <;> exact jp), jm,
     (by cases z1 <;> cases z2 <;> first | exact jo | exact jm), (by cases z1 <;> cases z2 <;> first | exact jo | exact jl fun _ h => h.1.li 0 1), (by cases z1 <;> cases z2 <;> first | exact jo | exact jm), (by cases z1 <;> cases z2 <;> first | exact jo | exact jb fun _ => eql_iB _ _ z3 hz3 _ _ _), (by cases z1 <;> cases z2 <;> exact jp), jm, trivial⟩ ?_
  rintro a20 wu H20 _ ⟨Ou, hOu⟩
  obtain ⟨w', hr, hg2, hs2, hC2⟩ := (Ou.get 3 rfl).sto (L := [.int .i64 q.sp, .int .i64 q.dp, .int .i64 q.sq, .int .i64 q.ak, .int .i64 q.fl, .int .i64 q.wn, .slice A3 q.xs.length c3]) size_sg rfl rfl rfl
  refine ⟨w', run_store rfl (H20.ev rfl) (H20.ev rfl) hr, nx0 (fun w' => Own w g [(g8, [.int .i64 q.sp, .int .i64 q.dp, .int .i64 q.sq, .int .i64 q.ak, .int .i64 q.fl, .int .i64 q.wn, .slice A3 q.xs.length c3]), (g5, [.int .i64 ps, .int .i64 pd, .int .i64 pp, .int .i64 pt, .int .i64 pi, .slice A2 zs.length c2]), (g2, [.int .i64 (fd : Int), .int .i64 (fs : Int), .int .i64 (ft : Int), .slice A1 ys.length c1]), (g, [.int .i64 q.sp, .int .i64 q.dp, .int .i64 q.sq, .int .i64 q.ak, .int .i64 q.fl, .int .i64 q.wn, .slice A3 q.xs.length c3])] w' ∧ w'.ownsRow bb 5 1 (.slice A3 q.xs.length c3) q.xs.length (q.xs.map bv)) [] [] ⟨Ou.store 3 rfl hg2 hs2 hC2, hOu.kept hg2 (.inr (own_ne hOu (.inl hs7)).symm)⟩ ?_⟩
  refine St.fin ⟨(by cases z1 <;> cases z2 <;> first | exact jo | exact jm), (by cases z1 <;> cases z2 <;> first | exact jo | exact jl fun _ h => h.1.li 0 1), (by cases z1 <;> cases z2 <;> first | exact jo | exact jm), (by cases z1 <;> cases z2 <;> first | exact jo | exact jb fun _ => eql_iB _ _ z3 hz3 _ _ _), (by cases z1 <;> cases z2 <;> exact jp), jm, trivial⟩ ?_ (hF := .inl rfl)
  rintro a21 w11 H21 _ ⟨O11, hO11⟩
  refine then_normal (wp_ret ?_)
  repeat (first | (with_reducible refine block_ret ?_) | (with_reducible refine then_ret ?_))
  refine bodyPost_ret (results_two Tryd.results24 _ _ _ (H21.at_ 10 _ rfl) (H21.at_ 11 _ rfl) (O11.get 3 rfl) Tryd.underlying43 rfl _ size_sg rfl) H21.df ⟨_, rfl, A3, c3, rfl, own_base hO11 (by omega), bl O11⟩
end Go.Proofs.YtlacidnnankjlaaDoor

/-
  kiosklaw28's own functions: may, seg; what a client that is not up answers.
-/
namespace Go.Proofs.YtlacidnnankjlaaDoor
open Go.RowKit

theorem num28 (u : Int) (w : World) : Calls Tryd.prog 6 #[.int .i64 u] w fun e w' => e = .returned (.int .i64 u) ∧ w = w' := by
  go_enter Tryd.func6, Tryd.ntmps6
  go_wp2
  go_ret
  exact ⟨rfl, rfl⟩
set_option maxRecDepth 100000 in
theorem may28 (ip mac port iss sq : Int) (vL : Value) (b1 b2 b3 b4 : Bool) (h1 : inR ip 4294967295 = b1) (h2 : inR mac 281474976710655 = b2) (h3 : inR port 65535 = b3) (h4 : inR iss 4294967295 = b4) (w : World) :
    Calls Tryd.prog 5 #[.agg #[.int .i64 ip, .int .i64 mac, .int .i64 port, .int .i64 iss, vL, .int .i64 sq]] w fun e w' => e = .returned (.bool (b1 && b2 && b3 && b4)) ∧ Below w.heap.size w w' := by
  go_enter Tryd.func5, Tryd.ntmps5
  refine Has.start 21 [(0, .agg #[.int .i64 ip, .int .i64 mac, .int .i64 port, .int .i64 iss, vL, .int .i64 sq])] rfl rfl ⟨rfl, trivial⟩ ?_
  intro a0 H0
  have O0 := Own.start w
  refine rl ?_
  refine H0.bx O0 1 (L := [.int .i64 ip, .int .i64 mac, .int .i64 port, .int .i64 iss, vL, .int .i64 sq]) fun a1 w1 O1 H1 => nt ?_
  generalize hg : w.heap.size = g at O1 H1
  refine H1.tb (Own w g [(g, [.int .i64 ip, .int .i64 mac, .int .i64 port, .int .i64 iss, vL, .int .i64 sq])]) (fun _ _ h hb => h.call hb) O1
    [ec 0 3 (.pointer (some ⟨g, 0, none⟩)), ec 1 4 (.int .i64 ip), ec 2 5 (.bool b1), ec 3 6 (.bool b1), ec 4 7 (gv b1 (.pointer (some ⟨g, 1, none⟩))), ec 5 8 (gv b1 (.int .i64 mac)), ec 6 9 (gv b1 (.bool b2)), ec 7 10 (.bool (b1 && b2)), ec 8 11 (.bool (b1 && b2)),
     ec 9 12 (gv (b1 && b2) (.pointer (some ⟨g, 2, none⟩))), ec 10 13 (gv (b1 && b2) (.int .i64 port)), ec 11 14 (gv (b1 && b2) (.bool b3)), ec 12 15 (.bool (b1 && b2 && b3)), ec 13 16 (.bool (b1 && b2 && b3)),
     ec 14 17 (gv (b1 && b2 && b3) (.pointer (some ⟨g, 3, none⟩))), ec 15 18 (gv (b1 && b2 && b3) (.int .i64 iss)), ec 16 19 (gv (b1 && b2 && b3) (.bool b4)), ec 17 20 (.bool (b1 && b2 && b3 && b4)), ec 18 2 (.bool (b1 && b2 && b3 && b4))] rfl
    ⟨jm, jl fun _ h => h.li 0 0, jq fun w' _ => h1 ▸ refWord ip w', jm, (by cases b1; exact jo; exact jm), (by cases b1; exact jo; exact jl fun _ h => h.li 0 1), (by cases b1; exact jo; exact jq fun w' _ => h2 ▸ macOk mac w'), (by cases b1 <;> exact jp), jm,
     (by cases b1 <;> cases b2 <;> first | exact jo | exact jm), (by cases b1 <;> cases b2 <;> first | exact jo | exact jl fun _ h => h.li 0 2), (by cases b1 <;> cases b2 <;> first | exact jo | exact jq fun w' _ => h3 ▸ refNum port 65535 w'), (by cases b1 <;> cases b2 <;> exact jp), jm,
     (by cases b1 <;> cases b2 <;> cases b3 <;> first | exact jo | exact jm), (by cases b1 <;> cases b2 <;> cases b3 <;> first | exact jo | exact jl fun _ h => h.li 0 3), (by cases b1 <;> cases b2 <;> cases b3 <;> first | exact jo | exact jq fun w' _ => h4 ▸ refWord iss w'), (by cases b1 <;> cases b2 <;> cases b3 <;> exact jp), jm, trivial⟩ ?_
  intro a2 w2 H2 O2
  refine then_normal (wp_ret ?_)
  repeat (first | (with_reducible refine block_ret ?_) | (with_reducible refine then_ret ?_))
  exact bodyPost_ret (results_tmp rfl _ _ _) H2.df ⟨congrArg Ending.returned (H2.at_ 2 _ rfl), O2.bel⟩
set_option maxRecDepth 100000 in
set_option maxHeartbeats 3200000 in
/-- what a client's frame carries. -/
theorem seg28 (ip mac port iss sq : Int) (vL : Value) (xs : List UInt8) (n : Nat) (hn : xs.length = n) (A : Option Addr) (c : Nat) (hnc : n ≤ c) (w : World) (hx : RB w w.heap.size A xs) (hl : n ≤ 140737488351232) :
    Calls Tryd.prog 11 #[.agg #[.int .i64 ip, .int .i64 mac, .int .i64 port, .int .i64 iss, vL, .int .i64 sq], .slice A n c] w fun e w' => ∃ v, e = .returned v ∧ SegRes w ((segTo xs ip port 167772161 1883).1, ((((segTo xs ip port 167772161 1883).2 && ((frOut xs).2 == 0)) && (((frOut xs).1.d : Int) == 2199023255553)) && (((frOut xs).1.s : Int) == mac))) v w' := by
  rcases hf : frOut xs with ⟨⟨fd, fs, ft, ys⟩, e1⟩
  rcases hs : segTo xs ip port 167772161 1883 with ⟨q, z1⟩
  go_enter Tryd.func11, Tryd.ntmps11
  refine Has.start 42 [(0, .agg #[.int .i64 ip, .int .i64 mac, .int .i64 port, .int .i64 iss, vL, .int .i64 sq]), (1, .slice A n c)] rfl rfl ⟨rfl, rfl, trivial⟩ ?_
  intro a0 H0
  have O0 := Own.start w
  refine rl ?_
  refine H0.bx O0 0 (L := [.int .i64 ip, .int .i64 mac, .int .i64 port, .int .i64 iss, vL, .int .i64 sq]) fun a1 w1 O1 H1 => ?_
  generalize hg : w.heap.size = g at O1 H1
  have bl : ∀ {w' : World} {bs : List (Nat × List Value)}, Own w g bs w' → Below w.heap.size w w' := fun h => hg ▸ h.bel
  refine H1.al O1 1 zero_sg fun a2 w2 O2 H2 => nt ?_
  have hg0 : g < w1.heap.size := O1.lt 0 rfl
  generalize w1.heap.size = g1 at O2 H2 hg0
  replace H2 := H2.keep (l' := [(1, .slice A n c), (2, .pointer (some ⟨g, 0, none⟩)), (4, .pointer (some ⟨g1, 0, none⟩))]) ⟨rfl, rfl, rfl, trivial⟩
  refine H2.rg 1 fun a3 H3 => ?_
  refine H3.cl (parseFrame xs n hn A c hnc w2 (hx.next (bl O2)) hl) ?_
  rintro a4 _ w3 ⟨A1, c1, hv, _, hb3⟩ H4
  rw [hf] at hv
  subst hv
  have O3 := O2.call hb3
  refine H4.ms 1 fun a5 H5 => ?_
  refine H5.ex (r := .agg ([.int .i64 (fd : Int), .int .i64 (fs : Int), .int .i64 (ft : Int), .slice A1 ys.length c1] : List Value).toArray) 0 fun a6 H6 => ?_
  refine H6.ex (r := .int .i64 e1) 0 fun a7 H7 => ?_
  refine H7.nk O3 1 (L := [.int .i64 (fd : Int), .int .i64 (fs : Int), .int .i64 (ft : Int), .slice A1 ys.length c1]) rfl zero_frm size_frm fun a8 w4 _ O4 _ H8 => nt ?_
  generalize w3.heap.size = g2 at O4 H8
  replace H8 := H8.keep (l' := [(1, .slice A n c), (2, .pointer (some ⟨g, 0, none⟩)), (4, .pointer (some ⟨g1, 0, none⟩)), (6, .pointer (some ⟨g2, 0, none⟩)), (7, .int .i64 e1)]) ⟨rfl, rfl, rfl, rfl, rfl, trivial⟩
  clear H0 H1 H2 H3 H4 H5 H6 H7 O0 O1 O2 O3 hb3
  refine H8.rg 2 fun a9 H9 => ?_
  refine H9.ld 1 (O4.li 2 0) fun a10 H10 => ?_
  refine H10.ld 0 (O4.li 2 2) fun a11 H11 => ?_
  refine H11.cl (pageSeg xs n hn A c hnc ip port 167772161 1883 w4 (hx.next (bl O4)) hl) ?_
  rintro a12 _ w5 ⟨A3, c3, hv, hO5, hb5⟩ H12
  rw [hs] at hv hO5
  subst hv
  have O5 := O4.call hb5
  have hg4 : g1 < w4.heap.size := O4.lt 1 rfl
  refine H12.ms 1 fun a13 H13 => ?_
  refine H13.ex (r := .agg ([.int .i64 q.sp, .int .i64 q.dp, .int .i64 q.sq, .int .i64 q.ak, .int .i64 q.fl, .int .i64 q.wn, .slice A3 q.xs.length c3] : List Value).toArray) 0 fun a14 H14 => ?_
  refine H14.ex (r := .bool z1) 0 fun a15 H15 => ?_
  refine H15.nk O5 1 (L := [.int .i64 q.sp, .int .i64 q.dp, .int .i64 q.sq, .int .i64 q.ak, .int .i64 q.fl, .int .i64 q.wn, .slice A3 q.xs.length c3]) rfl zero_sg size_sg fun a16 w6 hb6 O6 _ H16 => nt ?_
  have hO6 := own_below hO5 hb6
  generalize w5.heap.size = g3 at O6 H16
  generalize w4.heap.size = bb at hO6 hg4
  replace H16 := H16.keep (l' := [(2, .pointer (some ⟨g, 0, none⟩)), (4, .pointer (some ⟨g1, 0, none⟩)), (6, .pointer (some ⟨g2, 0, none⟩)), (7, .int .i64 e1), (8, .pointer (some ⟨g3, 0, none⟩)), (9, .bool z1)]) ⟨rfl, rfl, rfl, rfl, rfl, rfl, trivial⟩
  clear H8 H9 H10 H11 H12 H13 H14 H15 O4 O5 hb5 hb6 hO5
  obtain ⟨z2, hz2⟩ : ∃ b, (e1 == 0) = b := ⟨_, rfl⟩
  obtain ⟨z3, hz3⟩ : ∃ b, ((fd : Int) == 2199023255553) = b := ⟨_, rfl⟩
  obtain ⟨z4, hz4⟩ : ∃ b, ((fs : Int) == mac) = b := ⟨_, rfl⟩
  simp only [hz2, hz3, hz4]
  refine H16.sg (fun w' => Own w g [(g3, [.int .i64 q.sp, .int .i64 q.dp, .int .i64 q.sq, .int .i64 q.ak, .int .i64 q.fl, .int .i64 q.wn, .slice A3 q.xs.length c3]), (g2, [.int .i64 (fd : Int), .int .i64 (fs : Int), .int .i64 (ft : Int), .slice A1 ys.length c1]), (g1, [.int .i64 0, .int .i64 0, .int .i64 0, .int .i64 0, .int .i64 0, .int .i64 0, nilV]), (g, [.int .i64 ip, .int .i64 mac, .int .i64 port, .int .i64 iss, vL, .int .i64 sq])] w' ∧ w'.ownsRow bb 5 1 (.slice A3 q.xs.length c3) q.xs.length (q.xs.map bv)) ⟨O6.drew, hO6⟩ [2, 4, 6, 7, 8, 9]
    [ec 0 24 (.agg ([.int .i64 q.sp, .int .i64 q.dp, .int .i64 q.sq, .int .i64 q.ak, .int .i64 q.fl, .int .i64 q.wn, .slice A3 q.xs.length c3] : List Value).toArray), ec 1 25 (.bool z1), ec 2 26 (.bool z1), ec 3 27 (gv z1 (.int .i64 e1)), ec 4 28 (gv z1 (.bool z2)), ec 5 29 (.bool (z1 && z2)), ec 6 30 (.bool (z1 && z2)),
     ec 7 31 (gv (z1 && z2) (.pointer (some ⟨g2, 0, none⟩))), ec 8 32 (gv (z1 && z2) (.int .i64 (fd : Int))), ec 9 33 (gv (z1 && z2) (.bool z3)), ec 10 34 (.bool ((z1 && z2) && z3)), ec 11 35 (.bool ((z1 && z2) && z3)),
     ec 12 36 (gv ((z1 && z2) && z3) (.pointer (some ⟨g2, 1, none⟩))), ec 13 37 (gv ((z1 && z2) && z3) (.int .i64 (fs : Int))), ec 14 38 (gv ((z1 && z2) && z3) (.pointer (some ⟨g, 1, none⟩))), ec 15 39 (gv ((z1 && z2) && z3) (.int .i64 mac)), ec 16 40 (gv ((z1 && z2) && z3) (.bool z4)), ec 17 41 (.bool (((z1 && z2) && z3) && z4)), ec 19 5 (.bool (((z1 && z2) && z3) && z4))] rfl ?_
  refine St.sto 18 ⟨jl fun _ h => loadT (h.1.get 0 rfl) Tryd.underlying43 rfl size_sg rfl, jm, jm, (by cases z1; exact jo; exact jm), (by cases z1; exact jo; exact jb fun _ => eql_iB _ _ z2 hz2 _ _ _), (by cases z1 <;> exact jp), jm,
     (by cases z1 <;> cases z2 <;> first | exact jo | exact jm), (by cases z1 <;> cases z2 <;> first | exact jo | exact jl fun _ h => h.1.li 1 0), (by cases z1 <;> cases z2 <;> first | exact jo | exact jb fun _ => eql_iB _ _ z3 hz3 _ _ _), (by cases z1 <;> cases z2 <;> exact jp), jm,
     (by cases z1 <;> cases z2 <;> cases z3 <;> first | exact jo | exact jm), (by cases z1 <;> cases z2 <;> cases z3 <;> first | exact jo | exact jl fun _ h => h.1.li 1 1), (by cases z1 <;> cases z2 <;> cases z3 <;> first | exact jo | exact jm), (by cases z1 <;> cases z2 <;> cases z3 <;> first | exact jo | exact jl fun _ h => h.1.li 3 1), (by cases z1 <;> cases z2 <;> cases z3 <;> first | exact jo | exact jb fun _ => eql_iB _ _ z4 hz4 _ _ _), (by cases z1 <;> cases z2 <;> cases z3 <;> exact jp), jm, trivial⟩ ?_
  rintro a17 wu H17 _ ⟨Ou, hOu⟩
  obtain ⟨w', hr, hg2', hs2, hC2⟩ := (Ou.get 2 rfl).sto (L := [.int .i64 q.sp, .int .i64 q.dp, .int .i64 q.sq, .int .i64 q.ak, .int .i64 q.fl, .int .i64 q.wn, .slice A3 q.xs.length c3]) size_sg rfl rfl rfl
  refine ⟨w', run_store rfl (H17.ev rfl) (H17.ev rfl) hr, nx0 (fun w' => Own w g [(g3, [.int .i64 q.sp, .int .i64 q.dp, .int .i64 q.sq, .int .i64 q.ak, .int .i64 q.fl, .int .i64 q.wn, .slice A3 q.xs.length c3]), (g2, [.int .i64 (fd : Int), .int .i64 (fs : Int), .int .i64 (ft : Int), .slice A1 ys.length c1]), (g1, [.int .i64 q.sp, .int .i64 q.dp, .int .i64 q.sq, .int .i64 q.ak, .int .i64 q.fl, .int .i64 q.wn, .slice A3 q.xs.length c3]), (g, [.int .i64 ip, .int .i64 mac, .int .i64 port, .int .i64 iss, vL, .int .i64 sq])] w' ∧ w'.ownsRow bb 5 1 (.slice A3 q.xs.length c3) q.xs.length (q.xs.map bv)) [] [] ⟨Ou.store 2 rfl hg2' hs2 hC2, hOu.kept hg2' (.inr (own_ne hOu (.inl hg4)).symm)⟩ ?_⟩
  refine St.fin ⟨(by cases z1 <;> cases z2 <;> cases z3 <;> first | exact jo | exact jm), (by cases z1 <;> cases z2 <;> cases z3 <;> first | exact jo | exact jl fun _ h => h.1.li 1 1), (by cases z1 <;> cases z2 <;> cases z3 <;> first | exact jo | exact jm), (by cases z1 <;> cases z2 <;> cases z3 <;> first | exact jo | exact jl fun _ h => h.1.li 3 1), (by cases z1 <;> cases z2 <;> cases z3 <;> first | exact jo | exact jb fun _ => eql_iB _ _ z4 hz4 _ _ _), (by cases z1 <;> cases z2 <;> cases z3 <;> exact jp), jm, trivial⟩ ?_ (hF := .inl rfl)
  rintro a18 w8 H18 _ ⟨O8, hO8⟩
  refine then_normal (wp_ret ?_)
  repeat (first | (with_reducible refine block_ret ?_) | (with_reducible refine then_ret ?_))
  exact bodyPost_ret (results_two Tryd.results11 _ _ _ (H18.at_ 4 _ rfl) (H18.at_ 5 _ rfl) (O8.get 2 rfl) Tryd.underlying43 rfl _ size_sg rfl) H18.df ⟨_, rfl, A3, c3, rfl, own_base hO8 (by omega), bl O8⟩
end Go.Proofs.YtlacidnnankjlaaDoor

/-
  A client that is not up says nothing; it asks (wakes).
-/
namespace Go.Proofs.YtlacidnnankjlaaDoor
open Go.RowKit

theorem BoxQ.kept {base T : Nat} {L : List Value} {v : Value} {w w' : World} {r : Option Nat} (hg : w.grownBy w' r) (hr : ∀ k, r = some k → k < base) (h : BoxQ base T L v w) : BoxQ base T L v w' := by
  obtain ⟨g, h1, h2, h3, h4, h5⟩ := h
  have hne : some g ≠ r := fun e => by have := hr g e.symm; omega
  exact ⟨g, h1, h2, Nat.lt_of_lt_of_le h3 hg.size, h4.kept hg h3 hne, h5.grown hg hne⟩
theorem Own.addq {W w w' : World} {B : Nat} {bs : List (Nat × List Value)} (h : Own W B bs w) {q : Nat} {L : List Value} (hg : w.grownBy w' (some q)) (hB : B ≤ q) (hlt : q < w.heap.size) (hne : ∀ p ∈ bs, p.1 ≠ q) (hC : Cells w' q L) : Own W B ((q, L) :: bs) w' := by
  refine ⟨h.bel.grown hg h.le (fun k hk => by injection hk with hk; omega), Nat.le_trans h.le hg.size, ?_, fun p hp => ?_⟩
  · rw [List.map_cons, List.nodup_cons]
    exact ⟨fun hm => by obtain ⟨p, hp, e⟩ := List.mem_map.1 hm; exact hne p hp e, h.nd⟩
  · rcases List.mem_cons.1 hp with rfl | hp
    · exact ⟨hB, Nat.lt_of_lt_of_le hlt hg.size, hC⟩
    · have hm := h.mem p hp
      exact ⟨hm.1, Nat.lt_of_lt_of_le hm.2.1 hg.size, hm.2.2.kept hg hm.2.1 (by intro e; injection e with e; exact hne p hp e)⟩
theorem eql_p (a : Addr) (x y : Operand) (w : World) : (do eqGuard .eql 25 x y (.pointer (some a)) (.pointer none); binOp .eql 25 (.pointer (some a)) (.pointer none) : Sem Value).run Tryd.prog w = .ok (.bool false) w := by
  simp [go_sem]
theorem eql_p0 (x y : Operand) (w : World) : (do eqGuard .eql 25 x y (.pointer none) (.pointer none); binOp .eql 25 (.pointer none) (.pointer none) : Sem Value).run Tryd.prog w = .ok (.bool true) w := by
  simp [go_sem]
theorem eql_nil (x y : Operand) (w : World) : (do eqGuard .eql 32 x y nilV nilV; binOp .eql 32 nilV nilV : Sem Value).run Tryd.prog w = .ok (.bool true) w := by
  have := Lib.run_eql_slice_nil (P := Tryd.prog) w 32 5 none 0 0 0 0 Tryd.underlying32
  simp [go_sem] at this ⊢
  exact this
section
variable (g ip mac port iss next wants : Nat) (vg vl : Value) (w : World) (hC : Cells w g (cliC ip mac port iss next wants false vg vl)) (hg : g < w.heap.size)
include hC hg
set_option maxRecDepth 100000 in
theorem cliSay0 (L : List Value) : Calls Tryd.prog 13 #[.pointer (some ⟨g, 0, none⟩), .agg L.toArray] w fun e w' => e = .returned (.tuple #[nilV, .int .i64 6]) ∧ Below w.heap.size w w' := by
  go_enter Tryd.func13, Tryd.ntmps13
  refine Has.start 55 [(0, .pointer (some ⟨g, 0, none⟩)), (1, .agg L.toArray)] rfl rfl ⟨rfl, rfl, trivial⟩ ?_
  intro a0 H0
  have O0 := Own.start w
  refine rl ?_
  refine H0.bx O0 2 (L := L) fun a1 w1 O1 H1 => nt ?_
  replace H1 := H1.keep (l' := [(0, .pointer (some ⟨g, 0, none⟩))]) ⟨rfl, trivial⟩
  refine H1.rg 3 fun a H => ?_
  refine H.ld 0 (load1_b _ _ _ _ ((hC.below O1.bel hg).get 6 _ rfl)) fun a H => ?_
  refine H.un gz rfl rfl rfl rfl (run_not false _) fun a H => nt (H.condT rfl ?_)
  refine H.rg 2 fun a H => nt (wp_ret ?_)
  repeat (first | (with_reducible refine block_ret ?_) | (with_reducible refine then_ret ?_))
  exact bodyPost_ret (results_pair rfl _ _ _ (H.at_ 4 _ rfl) (H.at_ 5 _ rfl)) H.df ⟨rfl, O1.bel⟩
omit hg in
theorem cliBye0 : Calls Tryd.prog 14 #[.pointer (some ⟨g, 0, none⟩)] w fun e w' => e = .returned (.tuple #[nilV, .int .i64 6]) ∧ Below w.heap.size w w' := by
  go_enter Tryd.func14, Tryd.ntmps14
  refine Has.start 29 [(0, .pointer (some ⟨g, 0, none⟩))] rfl rfl ⟨rfl, trivial⟩ ?_
  intro a0 H0
  refine H0.rg 2 fun a1 H1 => nt ?_
  refine H1.rg 3 fun a H => ?_
  refine H.ld 0 (load1_b _ _ _ _ (hC.get 6 _ rfl)) fun a H => ?_
  refine H.un gz rfl rfl rfl rfl (run_not false _) fun a H => nt (H.condT rfl ?_)
  refine H.rg 2 fun a H => nt (wp_ret ?_)
  repeat (first | (with_reducible refine block_ret ?_) | (with_reducible refine then_ret ?_))
  exact bodyPost_ret (results_pair rfl _ _ _ (H.at_ 2 _ rfl) (H.at_ 3 _ rfl)) H.df ⟨rfl, Below.refl _ _⟩
end
theorem cliAgain0 (g ip mac port iss next wants : Nat) (up : Bool) (vg : Value) (w : World) (hC : Cells w g (cliC ip mac port iss next wants up vg nilV)) : Calls Tryd.prog 15 #[.pointer (some ⟨g, 0, none⟩)] w fun e w' => e = .returned (.tuple #[nilV, .int .i64 6]) ∧ Below w.heap.size w w' := by
  go_enter Tryd.func15, Tryd.ntmps15
  refine Has.start 14 [(0, .pointer (some ⟨g, 0, none⟩))] rfl rfl ⟨rfl, trivial⟩ ?_
  intro a0 H0
  refine H0.rg 2 fun a1 H1 => nt ?_
  refine H1.rg 3 fun a H => ?_
  refine H.ld 0 (load1_31 _ _ _ _ _ _ (hC.get 8 _ rfl)) fun a H => ?_
  refine H.bb 0 rfl rfl rfl rfl rfl rfl (eql_nil _ _ _) rfl fun a H => nt (H.condT rfl ?_)
  refine H.rg 2 fun a H => nt (wp_ret ?_)
  repeat (first | (with_reducible refine block_ret ?_) | (with_reducible refine then_ret ?_))
  exact bodyPost_ret (results_pair rfl _ _ _ (H.at_ 2 _ rfl) (H.at_ 3 _ rfl)) H.df ⟨rfl, Below.refl _ _⟩
set_option maxRecDepth 100000 in
set_option maxHeartbeats 1600000 in
theorem wakes28 (w : World) : Calls Tryd.prog 7 #[] w fun e w' => e = .returned (.bool true) ∧ Below w.heap.size w w' := by
  go_enter Tryd.func7, Tryd.ntmps7
  refine Has.start 43 [] rfl rfl trivial ?_
  intro a0 H0
  refine H0.rg 1 fun a1 H1 => nt ?_
  refine rl ?_
  refine H1.cl (cliNew 5 6 7 8 (by decide) (by decide) (by decide) (by decide) w) ?_
  rintro a2 _ w1 ⟨g, rfl, O1⟩ H2
  refine H2.ms 1 fun a3 H3 => ?_
  refine H3.ex (r := .pointer (some ⟨g, 0, none⟩)) 0 fun a4 H4 => ?_
  refine H4.ex (r := .int .i64 0) 2 fun a5 H5 => nt ?_
  replace H5 := H5.keep (l' := [(1, .pointer (some ⟨g, 0, none⟩)), (2, .int .i64 0)]) ⟨rfl, rfl, trivial⟩
  refine H5.tb (fun w' => Own w w.heap.size [(g, cliC 5 6 7 8 (spAdd 8 1) 0 false nilV nilV)] w') (fun _ _ h hb => h.call hb) O1
    [ec 0 9 (.int .i64 0), ec 1 10 (.int .i64 0), ec 2 11 (.bool false), ec 3 12 (.bool false), ec 4 13 (.pointer (some ⟨g, 0, none⟩)), ec 5 14 (.bool false), ec 6 15 (.bool false)] rfl
    ⟨jm, jq fun w' _ => num28 0 w', jb fun _ => neq_3 0 0 false rfl _ _ _, jm, jm, jb fun _ => eql_p _ _ _ _, jp, trivial⟩ ?_
  intro a6 w2 H6 O2
  refine then_normal (H6.condF rfl (skip_wp (then_normal ?_)))
  refine H6.rg 1 fun a7 H7 => ?_
  refine H7.cl (cliDial g 5 6 7 8 (spAdd 8 1) 0 false nilV nilV w2 (O2.get 0 rfl) (O2.lt 0 rfl) (by decide) (by decide) (by decide) (by decide)) ?_
  rintro a8 v3 w3 ⟨⟨A3, c3, rfl, hO3⟩, hg3, hC3⟩ H8
  have O3 := O2.turn 0 rfl hg3 hC3
  have hwl := wire_length 2199023255553 6 5 167772161 ⟨((7 : Nat) : Int), 1883, ((8 : Nat) : Int), 0, 2, 65535, []⟩
  have hr3 := rb_of_own rfl hO3 hg3.size
  refine H8.cl (pageSeg _ _ rfl A3 c3 (own_cap hO3) 5 7 167772161 1883 w3 hr3 (by rw [hwl]; decide)) ?_
  rintro a9 _ w4 ⟨A4, c4, hv, _, hb4⟩ H9
  have hq : Sg.ok ⟨7, 1883, 8, 0, 2, 65535, []⟩ = true := by decide
  rw [show segTo (wire 2199023255553 6 5 167772161 ⟨((7 : Nat) : Int), 1883, ((8 : Nat) : Int), 0, 2, 65535, []⟩) 5 7 167772161 1883 = (⟨7, 1883, 8, 0, 2, 65535, []⟩, true) from wire_back (q := ⟨((7 : Nat) : Int), 1883, ((8 : Nat) : Int), 0, 2, 65535, []⟩) (by decide) (by decide) (by decide) (by decide) hq] at hv
  subst hv
  have O4 := O3.call hb4
  refine H9.ms 1 fun a10 H10 => ?_
  refine H10.ex (r := .agg ([.int .i64 7, .int .i64 1883, .int .i64 8, .int .i64 0, .int .i64 2, .int .i64 65535, .slice A4 0 c4] : List Value).toArray) 0 fun a11 H11 => ?_
  refine H11.ex (r := .bool true) 0 fun a12 H12 => ?_
  refine H12.nk O4 1 (L := [.int .i64 7, .int .i64 1883, .int .i64 8, .int .i64 0, .int .i64 2, .int .i64 65535, .slice A4 0 c4]) rfl zero_sg size_sg fun a13 w5 _ O5 _ H13 => nt ?_
  generalize w4.heap.size = g4 at O5 H13
  replace H13 := H13.keep (l' := [(1, .pointer (some ⟨g, 0, none⟩)), (3, .pointer (some ⟨g4, 0, none⟩)), (4, .bool true)]) ⟨rfl, rfl, rfl, trivial⟩
  refine H13.tb (fun w' => Own w w.heap.size [(g4, [.int .i64 7, .int .i64 1883, .int .i64 8, .int .i64 0, .int .i64 2, .int .i64 65535, .slice A4 0 c4]), (g, cliC 5 6 7 8 (spAdd 8 1) 0 false nilV nilV)] w') (fun _ _ h hb => h.call hb) O5
    [ec 0 22 (.bool true), ec 1 23 (.bool true), ec 2 24 (.pointer (some ⟨g4, 4, none⟩)), ec 3 25 (.int .i64 2), ec 4 26 (.bool true), ec 5 27 (.bool true), ec 6 28 (.bool true), ec 7 29 (.pointer (some ⟨g4, 2, none⟩)), ec 8 30 (.int .i64 8), ec 9 31 (.bool true), ec 10 32 (.bool true), ec 11 33 (.bool true), ec 12 34 (.pointer (some ⟨g4, 5, none⟩)), ec 13 35 (.int .i64 65535), ec 14 36 (.bool true), ec 15 37 (.bool true), ec 16 38 (.bool true), ec 17 39 (.pointer (some ⟨g, 0, none⟩)), ec 18 40 (.bool false), ec 19 41 (.bool true), ec 20 42 (.bool true), ec 21 0 (.bool true)] rfl
    ⟨jm, jm, jm, jl fun _ h => h.li 0 4, jb fun _ => eql_iB 2 2 true rfl _ _ _, jp, jm, jm, jl fun _ h => h.li 0 2, jb fun _ => eql_iB 8 8 true rfl _ _ _, jp, jm, jm, jl fun _ h => h.li 0 5, jb fun _ => eql_iB 65535 65535 true rfl _ _ _, jp, jm, jm, jq fun w' h => cliUp g 5 6 7 8 (spAdd 8 1) 0 false nilV nilV w' (h.get 1 rfl), ju (hq := run_not false), jp, jm, trivial⟩ ?_
  intro a14 w6 H14 O6
  refine then_normal (wp_ret ?_)
  repeat (first | (with_reducible refine block_ret ?_) | (with_reducible refine then_ret ?_))
  exact bodyPost_ret (results_tmp rfl _ _ _) H14.df ⟨congrArg Ending.returned (H14.at_ 0 _ rfl), O6.bel⟩
end Go.Proofs.YtlacidnnankjlaaDoor

/-
  How a client begins: the walk.
-/
namespace Go.Proofs.YtlacidnnankjlaaDoor
open Go.RowKit

theorem size_ask28 : (Tryd.prog.info? 24).map (·.size) = some 6 := by kernel_rfl
set_option maxRecDepth 100000 in
set_option maxHeartbeats 3200000 in
theorem begins_no (ip mac port iss sq : Int) (vL : Value) (b1 b2 b3 b4 : Bool) (h1 : inR ip 4294967295 = b1) (h2 : inR mac 281474976710655 = b2) (h3 : inR port 65535 = b3) (h4 : inR iss 4294967295 = b4) (hn : (b1 && b2 && b3 && b4) = false) (w : World) :
    Calls Tryd.prog 3 #[.agg #[.int .i64 ip, .int .i64 mac, .int .i64 port, .int .i64 iss, vL, .int .i64 sq]] w fun e w' => e = .returned (.bool true) ∧ Below w.heap.size w w' := by
  go_enter Tryd.func3, Tryd.ntmps3
  refine Has.start 159 [(0, .agg #[.int .i64 ip, .int .i64 mac, .int .i64 port, .int .i64 iss, vL, .int .i64 sq])] rfl rfl ⟨rfl, trivial⟩ ?_
  intro a0 H0
  have O0 := Own.start w
  refine rl ?_
  refine H0.bx O0 1 (L := [.int .i64 ip, .int .i64 mac, .int .i64 port, .int .i64 iss, vL, .int .i64 sq]) fun a1 w1 O1 H1 => nt ?_
  generalize hg : w.heap.size = g at O1 H1
  refine H1.rg 1 fun a H => ?_
  refine H.ld 1 (O1.li 0 0) fun a H => ?_
  refine H.ld 1 (O1.li 0 1) fun a H => ?_
  refine H.ld 1 (O1.li 0 2) fun a H => ?_
  refine H.ld 0 (O1.li 0 3) fun a H => ?_
  refine H.cl (cliNew_no ip mac port iss b1 b2 b3 b4 h1 h2 h3 h4 hn w1) ?_
  rintro a _ w2 ⟨rfl, hb2⟩ H
  have O2 := O1.call hb2
  refine H.ms 1 fun a H => ?_
  refine H.ex (r := .pointer none) 0 fun a H => ?_
  refine H.ex (r := .int .i64 1) 2 fun a H => nt ?_
  replace H := H.keep (l' := [(1, .pointer (some ⟨g, 0, none⟩)), (3, .pointer none), (4, .int .i64 1)]) ⟨rfl, rfl, rfl, trivial⟩
  refine rl ?_
  refine H.ld 0 (loadT (O2.get 0 rfl) Tryd.underlying24 rfl size_ask28 rfl) fun a H => ?_
  refine H.cl (belowC (may28 ip mac port iss sq vL b1 b2 b3 b4 h1 h2 h3 h4 w2)) ?_
  rintro a _ w3 ⟨rfl, hb3⟩ H
  have O3 := O2.call hb3
  rw [hn] at H
  refine H.un gz rfl rfl rfl rfl (run_not false _) fun a H => nt (H.condT rfl ?_)
  replace H := H.keep (l' := [(3, .pointer none), (4, .int .i64 1)]) ⟨rfl, rfl, trivial⟩
  refine H.tb (Own w g [(g, [.int .i64 ip, .int .i64 mac, .int .i64 port, .int .i64 iss, vL, .int .i64 sq])]) (fun _ _ h hb => h.call hb) O3
    [ec 0 32 (.int .i64 1), ec 1 33 (.int .i64 1), ec 2 34 (.bool true), ec 3 35 (.bool true), ec 4 36 (.pointer none), ec 5 37 (.bool true), ec 6 38 (.bool true), ec 7 39 (.bool true), eh 8 40 (.bool true), ec 9 41 (.bool true), ec 10 2 (.bool true)] rfl
    ⟨jm, jq fun w' _ => num28 1 w', jb fun _ => eql_iB 1 1 true rfl _ _ _, jm, jm, jb fun _ => eql_p0 _ _ _, jp, jm, kb fun w' _ => wakes28 w', jp, jm, trivial⟩ ?_
  intro a4 w4 H4 O4
  refine then_normal (wp_ret ?_)
  repeat (first | (with_reducible refine block_ret ?_) | (with_reducible refine then_ret ?_))
  exact bodyPost_ret (results_tmp rfl _ _ _) H4.df ⟨congrArg Ending.returned (H4.at_ 2 _ rfl), O4.bel⟩
set_option maxRecDepth 100000 in
set_option maxHeartbeats 6400000 in
theorem begins_yes (ip mac port iss : Nat) (sq : Int) (vL : Value) (hip : ip < 4294967296) (hm : mac < 281474976710656) (hp : port < 65536) (hi : iss < 4294967296) (w : World) :
    Calls Tryd.prog 3 #[.agg #[.int .i64 (ip : Int), .int .i64 (mac : Int), .int .i64 (port : Int), .int .i64 (iss : Int), vL, .int .i64 sq]] w fun e w' => e = .returned (.bool true) ∧ Below w.heap.size w w' := by
  have h1 : inR (ip : Int) 4294967295 = true := inR_iff.2 ⟨by omega, by omega⟩
  have h2 : inR (mac : Int) 281474976710655 = true := inR_iff.2 ⟨by omega, by omega⟩
  have h3 : inR (port : Int) 65535 = true := inR_iff.2 ⟨by omega, by omega⟩
  have h4 : inR (iss : Int) 4294967295 = true := inR_iff.2 ⟨by omega, by omega⟩
  have hq : Sg.ok ⟨port, 1883, iss, 0, 2, 65535, []⟩ = true := sg_okN port 1883 iss 0 2 65535 [] (by omega) (by decide) (by omega) (by decide) (by decide) (by decide) (by decide)
  go_enter Tryd.func3, Tryd.ntmps3
  refine Has.start 159 [(0, .agg #[.int .i64 (ip : Int), .int .i64 (mac : Int), .int .i64 (port : Int), .int .i64 (iss : Int), vL, .int .i64 sq])] rfl rfl ⟨rfl, trivial⟩ ?_
  intro a0 H0
  have O0 := Own.start w
  refine rl ?_
  refine H0.bx O0 1 (L := [.int .i64 (ip : Int), .int .i64 (mac : Int), .int .i64 (port : Int), .int .i64 (iss : Int), vL, .int .i64 sq]) fun a1 w1 O1 H1 => nt ?_
  generalize hg : w.heap.size = g at O1 H1
  refine H1.rg 1 fun a H => ?_
  refine H.ld 1 (O1.li 0 0) fun a H => ?_
  refine H.ld 1 (O1.li 0 1) fun a H => ?_
  refine H.ld 1 (O1.li 0 2) fun a H => ?_
  refine H.ld 0 (O1.li 0 3) fun a H => ?_
  refine H.cl (cliNew ip mac port iss hip hm hp hi w1) ?_
  rintro a _ w2 ⟨gc, rfl, Oc⟩ H
  have hgc1 := Oc.ge 0 rfl
  have hgc2 := Oc.lt 0 rfl
  have hg1 := O1.lt 0 rfl
  have O2 : Own w g [(gc, cliC ip mac port iss (spAdd iss 1) 0 false nilV nilV), (g, [.int .i64 (ip : Int), .int .i64 (mac : Int), .int .i64 (port : Int), .int .i64 (iss : Int), vL, .int .i64 sq])] w2 := by
    have Oq := O1.call Oc.bel
    refine ⟨Oq.bel, Oq.le, by simp; omega, fun p hp => ?_⟩
    rcases List.mem_cons.1 hp with rfl | hp
    · exact ⟨Nat.le_trans O1.le hgc1, hgc2, Oc.get 0 rfl⟩
    · exact Oq.mem p hp
  refine H.ms 1 fun a H => ?_
  refine H.ex (r := .pointer (some ⟨gc, 0, none⟩)) 0 fun a H => ?_
  refine H.ex (r := .int .i64 0) 2 fun a H => nt ?_
  have hgg : g < gc := by omega
  replace H := H.keep (l' := [(1, .pointer (some ⟨g, 0, none⟩)), (3, .pointer (some ⟨gc, 0, none⟩)), (4, .int .i64 0)]) ⟨rfl, rfl, rfl, trivial⟩
  clear O1 Oc H1 H0 O0 hgc1 hgc2 hg1
  refine rl ?_
  refine H.ld 0 (loadT (O2.get 1 rfl) Tryd.underlying24 rfl size_ask28 rfl) fun a H => ?_
  refine H.cl (belowC (may28 ip mac port iss sq vL true true true true h1 h2 h3 h4 w2)) ?_
  rintro a _ w3 ⟨rfl, hb3⟩ H
  have O3 := O2.call hb3
  refine H.un gz rfl rfl rfl rfl (run_not true _) fun a H => nt (H.condF rfl (skip_wp (then_normal ?_)))
  replace H := H.keep (l' := [(1, .pointer (some ⟨g, 0, none⟩)), (3, .pointer (some ⟨gc, 0, none⟩)), (4, .int .i64 0)]) ⟨rfl, rfl, rfl, trivial⟩
  refine H.tb (Own w g [(gc, cliC ip mac port iss (spAdd iss 1) 0 false nilV nilV), (g, [.int .i64 (ip : Int), .int .i64 (mac : Int), .int .i64 (port : Int), .int .i64 (iss : Int), vL, .int .i64 sq])]) (fun _ _ h hb => h.call hb) O3
    [ec 0 42 (.int .i64 0), ec 1 43 (.int .i64 0), ec 2 44 (.bool false), ec 3 45 (.bool false), ec 4 46 (.pointer (some ⟨gc, 0, none⟩)), ec 5 47 (.bool false), ec 6 48 (.bool false)] rfl
    ⟨jm, jq fun w' _ => num28 0 w', jb fun _ => neq_3 0 0 false rfl _ _ _, jm, jm, jb fun _ => eql_p _ _ _ _, jp, trivial⟩ ?_
  clear H O2 O3 hb3
  intro a4 w4 H4 O4
  refine then_normal (H4.condF rfl (skip_wp (then_normal ?_)))
  replace H4 := H4.keep (l' := [(1, .pointer (some ⟨g, 0, none⟩)), (3, .pointer (some ⟨gc, 0, none⟩))]) ⟨rfl, rfl, trivial⟩
  refine H4.rg 1 fun a H => ?_
  refine H.cl (cliHello gc ip mac port iss (spAdd iss 1) 0 false nilV nilV w4 (O4.get 0 rfl) (O4.lt 0 rfl) hip hm) ?_
  rintro a _ w5 ⟨⟨A0, c0, rfl, hO5⟩, hb5⟩ H
  have O5 := O4.call hb5
  have hr5 := rb_of_own rfl hO5 hb5.size
  refine H.cl (parseFrame _ _ rfl A0 c0 (own_cap hO5) w5 hr5 (by rw [frBytes_length, arBytes_length]; decide)) ?_
  rintro a _ w6 ⟨A5, c5, hv, hO6, hb6⟩ H
  rw [fr_back 2199023255553 mac 2054 (arBytes 1 mac ip 0 167772161) (by decide) hm (by decide) (by rw [arBytes_length]; decide)] at hv hO6
  simp only [arBytes_length] at hv hO6
  subst hv
  have O6 := O5.call hb6
  have hr6 := rb_of_own (arBytes_length 1 mac ip 0 167772161) hO6 hb6.size
  have hc6 := own_cap hO6
  refine H.ms 1 fun a H => ?_
  refine H.ex (r := .agg ([.int .i64 ((2199023255553 : Nat) : Int), .int .i64 (mac : Int), .int .i64 ((2054 : Nat) : Int), .slice A5 28 c5] : List Value).toArray) 0 fun a H => ?_
  refine H.ex (r := .int .i64 0) 0 fun a H => ?_
  refine H.nk O6 1 (L := [.int .i64 ((2199023255553 : Nat) : Int), .int .i64 (mac : Int), .int .i64 ((2054 : Nat) : Int), .slice A5 28 c5]) rfl zero_frm size_frm fun a w7 hb7 O7 _ H => nt ?_
  have hr7 := hr6.next hb7
  have h57 : gc < w6.heap.size := O6.lt 0 rfl
  generalize w6.heap.size = g5 at O7 H h57
  replace H := H.keep (l' := [(1, .pointer (some ⟨g, 0, none⟩)), (3, .pointer (some ⟨gc, 0, none⟩)), (5, .pointer (some ⟨g5, 0, none⟩)), (6, .int .i64 0)]) ⟨rfl, rfl, rfl, rfl, trivial⟩
  clear H4 O4 O5 O6 hb5 hb6 hb7 hO5 hO6 hr5 hr6
  refine H.rg 1 fun a H => ?_
  refine H.ld 0 (load1_31 _ _ _ _ _ _ ((O7.get 0 rfl).get 3 _ rfl)) fun a H => ?_
  refine H.cl (parseArp mac ip 0 167772161 A5 c5 w7 hc6 hr7 hm hip (by decide) (by decide)) ?_
  rintro a _ w8 ⟨rfl, hb8⟩ H
  have O8 := O7.call hb8
  refine H.ms 1 fun a H => ?_
  refine H.ex (r := .agg ([.bool false, .int .i64 (mac : Int), .int .i64 (ip : Int), .int .i64 ((0 : Nat) : Int), .int .i64 ((167772161 : Nat) : Int)] : List Value).toArray) 0 fun a H => ?_
  refine H.ex (r := .int .i64 0) 0 fun a H => ?_
  refine H.nk O8 1 (L := [.bool false, .int .i64 (mac : Int), .int .i64 (ip : Int), .int .i64 ((0 : Nat) : Int), .int .i64 ((167772161 : Nat) : Int)]) rfl zero_arp size_arp fun a w9 _ O9 _ H => nt ?_
  have h78 : g5 < w8.heap.size := O8.lt 0 rfl
  generalize w8.heap.size = g7 at O9 H h78
  replace H := H.keep (l' := [(1, .pointer (some ⟨g, 0, none⟩)), (3, .pointer (some ⟨gc, 0, none⟩)), (5, .pointer (some ⟨g5, 0, none⟩)), (6, .int .i64 0), (7, .pointer (some ⟨g7, 0, none⟩)), (8, .int .i64 0)]) ⟨rfl, rfl, rfl, rfl, rfl, rfl, trivial⟩
  clear O7 O8 hb8 hr7
  refine H.sg (fun w' => Own w g [(g7, [.bool false, .int .i64 (mac : Int), .int .i64 (ip : Int), .int .i64 ((0 : Nat) : Int), .int .i64 ((167772161 : Nat) : Int)]), (g5, [.int .i64 ((2199023255553 : Nat) : Int), .int .i64 (mac : Int), .int .i64 ((2054 : Nat) : Int), .slice A5 28 c5]), (gc, cliC ip mac port iss (spAdd iss 1) 0 false nilV nilV), (g, [.int .i64 (ip : Int), .int .i64 (mac : Int), .int .i64 (port : Int), .int .i64 (iss : Int), vL, .int .i64 sq])] w') O9.drew [1, 3, 5, 6, 7, 8]
    [ec 0 62 (.agg ([.int .i64 (ip : Int), .int .i64 (mac : Int), .int .i64 (port : Int), .int .i64 (iss : Int), vL, .int .i64 sq] : List Value).toArray), ec 1 63 (.pointer (some ⟨gc, 0, none⟩)), er 7 9 [] (BoxQ (g7 + 1) 43 [.int .i64 0, .int .i64 0, .int .i64 0, .int .i64 0, .int .i64 0, .int .i64 0, nilV])] rfl ?_
  refine St.call 2 ⟨jl fun _ h => loadT (h.get 3 rfl) Tryd.underlying24 rfl size_ask28 rfl, jm, ka zero_sg (fun _ h => h.lt 0 rfl), trivial⟩ (fun wy h => cliDial gc ip mac port iss (spAdd iss 1) 0 false nilV nilV wy (h.get 2 rfl) (h.lt 2 rfl) hip hm hp hi) ?_ (hF := .inr fun _ _ h hb => h.call hb) (hst := ⟨fun _ _ _ hb h => h.below hb, trivial⟩)
  rintro wy _ wz hh ⟨⟨A3, c3, rfl, hO⟩, hgr, hC⟩
  have Oz := hh.turn 2 rfl hgr hC
  have hwl := wire_length 2199023255553 mac ip 167772161 ⟨port, 1883, iss, 0, 2, 65535, []⟩
  have hr := rb_of_own rfl hO hgr.size
  have hc3 := own_cap hO
  have hfr := wire_fr (dm := 2199023255553) (sm := mac) (src := ip) (dst := 167772161) (by decide) hm hq
  have hsg := wire_back (dm := 2199023255553) (sm := mac) (src := ip) (dst := 167772161) (by decide) hm hip (by decide) hq
  generalize wire 2199023255553 mac ip 167772161 ⟨port, 1883, iss, 0, 2, 65535, []⟩ = fs at *
  refine nx (fun w' => Own w g [(g7, [.bool false, .int .i64 (mac : Int), .int .i64 (ip : Int), .int .i64 ((0 : Nat) : Int), .int .i64 ((167772161 : Nat) : Int)]), (g5, [.int .i64 ((2199023255553 : Nat) : Int), .int .i64 (mac : Int), .int .i64 ((2054 : Nat) : Int), .slice A5 28 c5]), (gc, cliC ip mac port iss (spAdd iss 1) 0 false nilV nilV), (g, [.int .i64 (ip : Int), .int .i64 (mac : Int), .int .i64 (port : Int), .int .i64 (iss : Int), vL, .int .i64 sq])] w' ∧ RB w' w'.heap.size A3 fs) [] [] ⟨Oz, hr⟩ ?_ (hk := ⟨fun u hu => hu.kept hgr (fun k hk => by injection hk with hk; omega), trivial⟩)
  refine St.call 3 ⟨jl fun _ h => loadT (h.1.get 3 rfl) Tryd.underlying24 rfl size_ask28 rfl, ka zero_sg (fun _ h => h.1.lt 0 rfl), trivial⟩ (fun wy h => seg28 ip mac port iss sq vL fs _ rfl A3 c3 hc3 wy h.2 (by rw [hwl]; show (54 + 0 : Nat) ≤ 140737488351232; decide)) ?_ (hF := .inr fun _ _ h hb => ⟨h.1.call hb, h.2.next hb⟩) (hst := ⟨fun _ _ _ hb h => h.below hb, trivial⟩)
  rintro wy _ wz ⟨hh, _⟩ ⟨A9, c9, hv, _, hb⟩
  rw [hfr, show segTo fs ip port 167772161 1883 = (⟨port, 1883, iss, 0, 2, 65535, []⟩, true) from hsg] at hv
  simp only [beq_self_eq_true, Bool.and_true, Bool.true_and] at hv
  subst hv
  refine nx (fun w' => Own w g [(g7, [.bool false, .int .i64 (mac : Int), .int .i64 (ip : Int), .int .i64 ((0 : Nat) : Int), .int .i64 ((167772161 : Nat) : Int)]), (g5, [.int .i64 ((2199023255553 : Nat) : Int), .int .i64 (mac : Int), .int .i64 ((2054 : Nat) : Int), .slice A5 28 c5]), (gc, cliC ip mac port iss (spAdd iss 1) 0 false nilV nilV), (g, [.int .i64 (ip : Int), .int .i64 (mac : Int), .int .i64 (port : Int), .int .i64 (iss : Int), vL, .int .i64 sq])] w') [ec 4 61 (.tuple #[.agg ([.int .i64 (port : Int), .int .i64 1883, .int .i64 (iss : Int), .int .i64 0, .int .i64 2, .int .i64 65535, .slice A9 0 c9] : List Value).toArray, .bool true]), ec 5 66 (.agg ([.int .i64 (port : Int), .int .i64 1883, .int .i64 (iss : Int), .int .i64 0, .int .i64 2, .int .i64 65535, .slice A9 0 c9] : List Value).toArray), ec 6 67 (.bool true), ec 9 10 (.bool true)] [] (hh.call hb) ?_ (hk := StabAll.keeps hb ⟨fun _ _ _ hb h => h.below hb, trivial⟩)
  refine St.sto 8 ⟨jm, jx, jx, jm, ka zero_sg (fun _ h => h.lt 0 rfl), trivial⟩ ?_ (hF := .inr fun _ _ h hb => h.call hb) (hst := ⟨fun _ _ _ hb h => h.below hb, trivial⟩)
  rintro a10 wu H10 ⟨⟨g9, e9, hq1, hq2, hCq, _⟩, _⟩ Ou
  obtain ⟨w', hr', hg', hs', hC'⟩ := hCq.sto (L := [.int .i64 (port : Int), .int .i64 1883, .int .i64 (iss : Int), .int .i64 0, .int .i64 2, .int .i64 65535, .slice A9 0 c9]) size_sg rfl rfl rfl
  have hne : ∀ p ∈ [(g7, [.bool false, .int .i64 (mac : Int), .int .i64 (ip : Int), .int .i64 ((0 : Nat) : Int), .int .i64 ((167772161 : Nat) : Int)]), (g5, [.int .i64 ((2199023255553 : Nat) : Int), .int .i64 (mac : Int), .int .i64 ((2054 : Nat) : Int), .slice A5 28 c5]), (gc, cliC ip mac port iss (spAdd iss 1) 0 false nilV nilV), (g, [.int .i64 (ip : Int), .int .i64 (mac : Int), .int .i64 (port : Int), .int .i64 (iss : Int), vL, .int .i64 sq])], p.1 ≠ g9 := by
    intro p hp
    simp only [List.mem_cons, List.not_mem_nil, or_false] at hp
    rcases hp with rfl | rfl | rfl | rfl <;> (show _ ≠ g9; omega)
  refine ⟨w', run_store rfl e9 (H10.ev rfl) hr', nxp (fun w' => Own w g [(g9, [.int .i64 (port : Int), .int .i64 1883, .int .i64 (iss : Int), .int .i64 0, .int .i64 2, .int .i64 65535, .slice A9 0 c9]), (g7, [.bool false, .int .i64 (mac : Int), .int .i64 (ip : Int), .int .i64 ((0 : Nat) : Int), .int .i64 ((167772161 : Nat) : Int)]), (g5, [.int .i64 ((2199023255553 : Nat) : Int), .int .i64 (mac : Int), .int .i64 ((2054 : Nat) : Int), .slice A5 28 c5]), (gc, cliC ip mac port iss (spAdd iss 1) 0 false nilV nilV), (g, [.int .i64 (ip : Int), .int .i64 (mac : Int), .int .i64 (port : Int), .int .i64 (iss : Int), vL, .int .i64 sq])] w') [ec 7 9 (.pointer (some ⟨g9, 0, none⟩))] [] [7] (Ou.addq hg' (by omega) hq2 hne hC') ⟨⟨rfl, rfl, _, rfl, e9⟩, trivial⟩ ?_⟩
  refine St.fin ⟨jx, jm, trivial⟩ ?_ (hF := .inl rfl)
  rintro a11 w11 H11 _ O11
  refine then_normal ?_
  replace H11 := H11.keep (l' := [(1, .pointer (some ⟨g, 0, none⟩)), (3, .pointer (some ⟨gc, 0, none⟩)), (5, .pointer (some ⟨g5, 0, none⟩)), (6, .int .i64 0), (7, .pointer (some ⟨g7, 0, none⟩)), (8, .int .i64 0), (9, .pointer (some ⟨g9, 0, none⟩)), (10, .bool true)]) ⟨rfl, rfl, rfl, rfl, rfl, rfl, rfl, rfl, trivial⟩
  clear H hr' hg' hs' hC' hCq Ou e9 hh hb O9
  refine H11.rg 1 fun a H => ?_
  refine H.any (w' := w11) gz rfl rfl (.agg (List.toArray [.int .i64 12, .string ⟨#[]⟩, .bool false, .int .i64 0, .bool false, .string ⟨#[]⟩, .string ⟨#[]⟩, .int .i64 0, .bool false, .string ⟨#[]⟩, .bool false, .string ⟨#[]⟩, .bool false, .bool false, .int .i64 0, nilV, .bool false, .int .i64 0, .bool false, .string ⟨#[]⟩, .int .i64 0, .string ⟨#[]⟩, nilV, nilV])) (by intro cs b h; cases h) (by kernel_rfl) (by kernel_rfl) fun a H => ?_
  refine H.cl (belowC (cliSay0 gc ip mac port iss (spAdd iss 1) 0 nilV nilV w11 (O11.get 3 rfl) (O11.lt 3 rfl) [.int .i64 12, .string ⟨#[]⟩, .bool false, .int .i64 0, .bool false, .string ⟨#[]⟩, .string ⟨#[]⟩, .int .i64 0, .bool false, .string ⟨#[]⟩, .bool false, .string ⟨#[]⟩, .bool false, .bool false, .int .i64 0, nilV, .bool false, .int .i64 0, .bool false, .string ⟨#[]⟩, .int .i64 0, .string ⟨#[]⟩, nilV, nilV])) ?_
  rintro a _ w12 ⟨rfl, hb12⟩ H
  have O12 := O11.call hb12
  refine H.ms 1 fun a H => ?_
  refine H.ex (r := nilV) 0 fun a H => ?_
  refine H.ex (r := .int .i64 6) 2 fun a H => nt ?_
  refine H.rg 1 fun a H => ?_
  refine H.cl (belowC (cliBye0 gc ip mac port iss (spAdd iss 1) 0 nilV nilV w12 (O12.get 3 rfl))) ?_
  rintro a _ w13 ⟨rfl, hb13⟩ H
  have O13 := O12.call hb13
  refine H.ms 1 fun a H => ?_
  refine H.ex (r := nilV) 0 fun a H => ?_
  refine H.ex (r := .int .i64 6) 2 fun a H => nt ?_
  refine H.rg 1 fun a H => ?_
  refine H.cl (belowC (cliAgain0 gc ip mac port iss (spAdd iss 1) 0 false nilV w13 (O13.get 3 rfl))) ?_
  rintro a _ w14 ⟨rfl, hb14⟩ H
  have O14 := O13.call hb14
  refine H.ms 1 fun a H => ?_
  refine H.ex (r := nilV) 0 fun a H => ?_
  refine H.ex (r := .int .i64 6) 2 fun a H => nt ?_
  replace H := H.keep (l' := [(1, .pointer (some ⟨g, 0, none⟩)), (5, .pointer (some ⟨g5, 0, none⟩)), (6, .int .i64 0), (7, .pointer (some ⟨g7, 0, none⟩)), (8, .int .i64 0), (9, .pointer (some ⟨g9, 0, none⟩)), (10, .bool true), (12, .int .i64 6), (14, .int .i64 6), (16, .int .i64 6)]) ⟨rfl, rfl, rfl, rfl, rfl, rfl, rfl, rfl, rfl, rfl, trivial⟩
  clear O11 O12 O13 hb12 hb13 hb14 H11
  refine H.tb (Own w g [(g9, [.int .i64 (port : Int), .int .i64 1883, .int .i64 (iss : Int), .int .i64 0, .int .i64 2, .int .i64 65535, .slice A9 0 c9]), (g7, [.bool false, .int .i64 (mac : Int), .int .i64 (ip : Int), .int .i64 ((0 : Nat) : Int), .int .i64 ((167772161 : Nat) : Int)]), (g5, [.int .i64 ((2199023255553 : Nat) : Int), .int .i64 (mac : Int), .int .i64 ((2054 : Nat) : Int), .slice A5 28 c5]), (gc, cliC ip mac port iss (spAdd iss 1) 0 false nilV nilV), (g, [.int .i64 (ip : Int), .int .i64 (mac : Int), .int .i64 (port : Int), .int .i64 (iss : Int), vL, .int .i64 sq])]) (fun _ _ h hb => h.call hb) O14
    [ec 0 84 (.int .i64 0), ec 1 85 (.bool true), ec 2 86 (.bool true), ec 3 87 (.int .i64 0), ec 4 88 (.bool true), ec 5 89 (.bool true), ec 6 90 (.bool true), ec 7 91 (.pointer (some ⟨g5, 2, none⟩)), ec 8 92 (.int .i64 ((2054 : Nat) : Int)), ec 9 93 (.bool true), ec 10 94 (.bool true), ec 11 95 (.bool true), ec 12 96 (.pointer (some ⟨g5, 1, none⟩)), ec 13 97 (.int .i64 (mac : Int)), ec 14 98 (.pointer (some ⟨g, 1, none⟩)), ec 15 99 (.int .i64 (mac : Int)), ec 16 100 (.bool true), ec 17 101 (.bool true), ec 18 102 (.bool true), ec 19 103 (.pointer (some ⟨g7, 0, none⟩)), ec 20 104 (.bool false), ec 21 105 (.bool true), ec 22 106 (.bool true), ec 23 107 (.bool true), ec 24 108 (.pointer (some ⟨g7, 2, none⟩)), ec 25 109 (.int .i64 (ip : Int)), ec 26 110 (.pointer (some ⟨g, 0, none⟩)), ec 27 111 (.int .i64 (ip : Int)), ec 28 112 (.bool true), ec 29 113 (.bool true), ec 30 114 (.bool true), ec 31 115 (.pointer (some ⟨g7, 1, none⟩)), ec 32 116 (.int .i64 (mac : Int)), ec 33 117 (.pointer (some ⟨g, 1, none⟩)), ec 34 118 (.int .i64 (mac : Int)), ec 35 119 (.bool true), ec 36 120 (.bool true), ec 37 121 (.bool true), ec 38 122 (.pointer (some ⟨g7, 4, none⟩)), ec 39 123 (.int .i64 ((167772161 : Nat) : Int)), ec 40 124 (.bool true), ec 41 125 (.bool true), ec 42 126 (.bool true), ec 43 127 (.bool true), ec 44 128 (.bool true), ec 45 129 (.bool true), ec 46 130 (.pointer (some ⟨g9, 2, none⟩)), ec 47 131 (.int .i64 (iss : Int)), ec 48 132 (.pointer (some ⟨g, 3, none⟩)), ec 49 133 (.int .i64 (iss : Int)), ec 50 134 (.bool true), ec 51 135 (.bool true), ec 52 136 (.bool true), ec 53 137 (.pointer (some ⟨g9, 4, none⟩)), ec 54 138 (.int .i64 2), ec 55 139 (.bool true), ec 56 140 (.bool true), ec 57 141 (.bool true), ec 58 142 (.int .i64 6), ec 59 143 (.int .i64 6), ec 60 144 (.bool true), ec 61 145 (.bool true), ec 62 146 (.bool true), ec 63 147 (.int .i64 6), ec 64 148 (.int .i64 6), ec 65 149 (.bool true), ec 66 150 (.bool true), ec 67 151 (.bool true), ec 68 152 (.int .i64 6), ec 69 153 (.int .i64 6), ec 70 154 (.bool true), ec 71 155 (.bool true), ec 72 156 (.bool true), eh 73 157 (.bool true), ec 74 158 (.bool true), ec 75 2 (.bool true)] rfl
    ⟨jm, jb fun _ => eql_iB  0  0 true (by simp) _ _ _, jm, jm, jb fun _ => eql_iB  0  0 true (by simp) _ _ _, jp, jm, jm, jl fun _ h => h.li 2 2, jb fun _ => eql_iB  ((2054 : Nat) : Int)  2054 true (by simp) _ _ _, jp, jm, jm, jl fun _ h => h.li 2 1, jm, jl fun _ h => h.li 4 1, jb fun _ => eql_iB  (mac : Int)  (mac : Int) true (by simp) _ _ _, jp, jm, jf fieldArp_0, jl fun _ h => h.lb 1 0, ju (hq := run_not false), jp, jm, jf fieldArp_2, jl fun _ h => h.li 1 2, jm, jl fun _ h => h.li 4 0, jb fun _ => eql_iB  (ip : Int)  (ip : Int) true (by simp) _ _ _, jp, jm, jf fieldArp_1, jl fun _ h => h.li 1 1, jm, jl fun _ h => h.li 4 1, jb fun _ => eql_iB  (mac : Int)  (mac : Int) true (by simp) _ _ _, jp, jm, jf fieldArp_4, jl fun _ h => h.li 1 4, jb fun _ => eql_iB  ((167772161 : Nat) : Int)  167772161 true (by simp) _ _ _, jp, jm, jm, jp, jm, jm, jl fun _ h => h.li 0 2, jm, jl fun _ h => h.li 4 3, jb fun _ => eql_iB  (iss : Int)  (iss : Int) true (by simp) _ _ _, jp, jm, jm, jl fun _ h => h.li 0 4, jb fun _ => eql_iB  2  2 true (by simp) _ _ _, jp, jm, jm, jq fun w' _ => num28 6 w', jb fun _ => eql_iB  6  6 true (by simp) _ _ _, jp, jm, jm, jq fun w' _ => num28 6 w', jb fun _ => eql_iB  6  6 true (by simp) _ _ _, jp, jm, jm, jq fun w' _ => num28 6 w', jb fun _ => eql_iB  6  6 true (by simp) _ _ _, jp, jm, kb fun w' _ => wakes28 w', jp, jm, trivial⟩ ?_
  intro a15 w15 H15 O15
  refine then_normal (wp_ret ?_)
  repeat (first | (with_reducible refine block_ret ?_) | (with_reducible refine then_ret ?_))
  exact bodyPost_ret (results_tmp rfl _ _ _) H15.df ⟨congrArg Ending.returned (H15.at_ 2 _ rfl), O15.bel⟩
end Go.Proofs.YtlacidnnankjlaaDoor

/-
  From a walk to a row, for a law of one argument that answers a bool and leaves its argument alone; variables are listed.
-/
namespace Go.Proofs.YtlacidnnankjlaaDoor
open Go.ChangeShapes Go.WideShapes Go.ChangeAt Go.RowKit Go.Deep

theorem own_knob : ownKnob Tryd.prog.godebug = none := by kernel_rfl
theorem laid_out : laidOutB Tryd.prog = true := by kernel_rfl

section
variable {H : Type} {enc : TypeId × Value → H} {P : Program}
theorem post_of_below {f : Func} {s : ChangeSpec} {apart fresh handsOn again : Bool} {W W' : World} {args : Array Value} {v : Value} {ds gs : List (DataW H)} {before pa pv : List MemPlace}
    (hW : DataW.Whole enc P f.params.toList s.vars apart W args.toList ds gs before)
    (hres : ∀ (b : Nat) (sp : Nat → Bool) (hd : Bool), DataW.TrodAll enc P W' b sp hd f.resultTypes.toList (v.resultList f.resultTypes.size) (s.fn H (ds ++ gs)).results [])
    (hargs : ∀ sp : Nat → Bool, (∀ p ∈ before, sp p.block = true) → DataW.TrodAll enc P W' 0 sp true f.params.toList args.toList (s.fn H (ds ++ gs)).args pa)
    (hvars : ∀ sp : Nat → Bool, (∀ p ∈ before, sp p.block = true) → DataW.TrodVars enc P W' sp s.vars (s.fn H (ds ++ gs)).vars pv)
    (hps : before = pa ++ pv) (hb : Below W.heap.size W W')
    (hok : ∀ (j : Nat) (t : TypeId) (r : Value), f.resultTypes[j]? = some t → (v.resultList f.resultTypes.size)[j]? = some r → Value.okWide P W' .any 0 t r) :
    s.post enc P f apart fresh handsOn again W args v W' := by
  have hlt : ∀ p ∈ before, p.block < W.heap.size := fun p hp => hW.lt p hp
  have hold : ∀ p ∈ before, (fun b => decide (b < W.heap.size)) p.block = true := fun p hp => by simpa using hlt p hp
  refine ⟨ds, gs, before, [], pa, pv, hW, hres _ _ _, hargs _ hold, hvars _ hold, World.keptBut_mono (fun p hp => ⟨hp, ?_⟩) (hb.frame (· ∈ before)), fun _ => ?_⟩
  · rw [hps, List.mem_append] at hp
    exact Or.inr hp
  · obtain ⟨_, _, _, _, _, hz, hn⟩ := hW
    refine ⟨hok, _, _, ([] ++ pa) ++ pv, ⟨[] ++ pa, pv, trodAll_append (hargs _ (fun _ _ => rfl)) (hres _ _ _), hvars _ (fun _ _ => rfl), rfl, ?_, ?_⟩, ?_⟩
    · intro b off hp
      have hin : MemPlace.cell b off ∈ before := by rw [hps]; simpa using hp
      rw [hb.frozen (hlt _ hin)]
      exact hz b off hin
    · intro ha
      have := hn ha
      rw [hps] at this
      simpa using this
    · intro p hp _
      rw [hps]
      simpa using hp
end

/-- what a law's argument brings: the value, its reading, and that each part is within the form's reach. -/
def Comes {H : Type} (enc : TypeId × Value → H) (W : World) (T : TypeId) (v : Value) (d : DataW H) (p : List MemPlace) : Prop :=
  DataW.Trod enc Tryd.prog W 0 (fun _ => true) true T v d p ∧ (∃ base, Value.okWide Tryd.prog W .any base T v) ∧ (DataW.weightsEach Tryd.prog [T] [d]).all (· ≤ reachBytes) = true

section
theorem okw_slice {P : Program} {W : World} {T e : TypeId} {v : Value} (ht : P.underlying T = some (.slice e)) (h : ∃ base, Value.okWide P W .any base T v) : ∃ a len cap, v = .slice a len cap := by
  obtain ⟨b, hv⟩ := h
  exact okWide_slice ht hv
theorem ok_first {P : Program} {fn : Func} {W : World} {base : Nat} {T : TypeId} {args : Array Value} {v : Value} (hp : fn.params = #[T]) (ha : args[0]? = some v)
    (h : ∀ (j : Nat) t v, fn.params[j]? = some t → args[j]? = some v → Value.okWide P W .any base t v) : ∃ base, Value.okWide P W .any base T v := ⟨base, h 0 T v (by rw [hp]; rfl) ha⟩
theorem ok_bool {P : Program} {W : World} {Tb : TypeId} (hb : P.underlying Tb = some .bool) : ∀ (j : Nat) (t : TypeId) (r : Value), #[Tb][j]? = some t → ((Value.bool true).resultList 1)[j]? = some r → Value.okWide P W .any 0 t r := by
  intro j t r hj hr'
  match j, hj, hr' with
  | 0, hj, hr' =>
    simp [Value.resultList] at hj hr'
    subst hj; subst hr'
    exact okWide_bool_mk hb true
  | j + 1, hj, _ => simp at hj
/-- FROM A WALK TO THE LIFTED FORM, for a law that lists variables. -/
theorem laid_core {C : Checked} {K : FuncId} {fn : Func} {T Tb : TypeId} {s : ChangeSpec} {lay : List (String × DataW Unit)} (own : ownKnob C.prog.godebug = none) (hlo : laidOutB C.prog = true) (hK : C.prog.funcs[K]? = some fn) (hp : fn.params = #[T]) (hr : fn.resultTypes = #[Tb]) (hb : C.prog.underlying Tb = some .bool)
    (hvars : s.vars = []) (hfn : ∀ (H : Type) (d : DataW H), s.fn H [d] = { results := [.lit (.bool true)], args := [d] })
    (hT : C.prog.readableRec T = true) (hTs : T < C.prog.types.size) (noInit : C.prog.inits.idxOf? K = none)
    (walk : ∀ (H : Type) (enc : TypeId × Value → H) (W : World) (v : Value) (d : DataW H) (p : List MemPlace), DataW.Trod enc C.prog W 0 (fun _ => true) true T v d p → (∃ base, Value.okWide C.prog W .any base T v) → (DataW.weightsEach C.prog [T] [d]).all (· ≤ reachBytes) = true → laidMetH C.prog lay W → Calls C.prog K #[v] W fun e W' => e = .returned (.bool true) ∧ Below W.heap.size W W')
    (os : Os) (started : os.Started) (H : Type) (enc : TypeId × Value → H)
    (witness : ∃ (w : World) (tape : Tape) (i : Input), w.os = os ∧ (w.forCall tape i).Shaped C.prog ∧ i.vars = [] ∧ Input.okWide C.prog (w.forCall tape i) .any w.heap.size K i ∧
      ((s.pre enc C.prog fn [] false (w.forCall tape i).memory i.args ∧ laidMetH C.prog lay (w.forCall tape i).memory) ∧ sizedMet enc C.prog fn (OpenSpec.ofChange s) false (w.forCall tape i).memory i.args) ∧ ({} : Assume).holds C.prog (lone (Frame.enter C.prog K i.args .normal) [] (w.forCall tape i))) :
    ReturnsInHanded {} C os K .any (fun w args => (s.pre enc C.prog fn [] false w args ∧ laidMetH C.prog lay w) ∧ sizedMet enc C.prog fn (OpenSpec.ofChange s) false w args) (s.post enc C.prog fn false true false false) := by
  refine returnsInHanded_of_change_and (X := fun w _ => laidMetH C.prog lay w) (fun _ _ _ hh h => h.of_heap hh) own started noInit hK witness ?_
  intro W base args ds gs before hval0 hW _ hsz0 hL _
  have hW' := hW
  obtain ⟨p, q, hA, hV, rfl, _, _⟩ := hW
  rw [hvars] at hV
  obtain ⟨rfl, rfl⟩ := trodVars_none hV
  rw [hp] at hA
  obtain ⟨v, d, ha, rfl, h0⟩ := trodAll_one hA
  subst ha
  have hsz : (DataW.weightsEach C.prog [T] [d]).all (· ≤ reachBytes) = true := by
    have h : (DataW.weightsEach C.prog (fn.params.toList ++ s.plain.varTypes C.prog) ([d] ++ [])).all (· ≤ reachBytes) = true := hsz0
    rw [hp] at h
    simpa [DataSpec.varTypes, ChangeSpec.plain, hvars] using h
  have hlt : ∀ x ∈ p, x.block < W.heap.size := fun x hx => hW'.lt x (by simpa using hx)
  refine (walk H enc W v d p h0 (ok_first hp rfl hval0) hsz hL).mono fun e W' ⟨he, hbl⟩ => ?_
  refine ⟨_, he, post_of_below (pa := p) (pv := []) hW' ?_ ?_ ?_ (by simp) hbl ?_⟩
  · intro b sp hd
    rw [hr, List.append_nil, hfn]
    exact trodAll_mk1 (shut_bool hb true)
  · intro sp hsp
    rw [hp, List.append_nil, hfn]
    exact trodAll_mk1 (WideElems.Trod_stays hlo hT hTs h0 (fun x hx => hbl.same (hlt x hx)) (fun x hx => hsp x (by simpa using hx)))
  · intro sp _
    rw [hvars, List.append_nil, hfn]
    rfl
  · rw [hr]
    exact ok_bool hb
end
end Go.Proofs.YtlacidnnankjlaaDoor

/-
  How arguments read: bytes; slices whose elements take several cells, element by element.
-/
namespace Go.Proofs.YtlacidnnankjlaaDoor
open Go.ChangeShapes Go.WideShapes Go.ChangeAt Go.RowKit Go.Deep

theorem cells_u8 : Tryd.prog.cellsOf 5 = 1 := by kernel_rfl
theorem wf_byte {n : Int} (h : (Lit.int .u8 n).wf = true) : ∃ x : UInt8, n = (x.toNat : Int) := by
  have h1 : IntKind.u8.min = 0 := rfl
  have h2 : IntKind.u8.max = 255 := rfl
  simp only [Lit.wf, Bool.and_eq_true, decide_eq_true_eq] at h
  refine ⟨UInt8.ofNat n.toNat, ?_⟩
  rw [UInt8.toNat_ofNat']
  omega
theorem wf_i64 {n : Int} (h : (Lit.int .i64 n).wf = true) : -9223372036854775808 ≤ n ∧ n ≤ 9223372036854775807 := by
  have h1 : IntKind.i64.min = -9223372036854775808 := rfl
  have h2 : IntKind.i64.max = 9223372036854775807 := rfl
  simp only [Lit.wf, Bool.and_eq_true, decide_eq_true_eq] at h
  omega
theorem wf_u32 {n : Int} (h : (Lit.int .u32 n).wf = true) : ∃ s : Nat, n = (s : Int) ∧ s < 4294967296 := by
  have h1 : IntKind.u32.min = 0 := rfl
  have h2 : IntKind.u32.max = 4294967295 := rfl
  simp only [Lit.wf, Bool.and_eq_true, decide_eq_true_eq] at h
  exact ⟨n.toNat, by omega, by omega⟩

/-- each part of a datum is within the form's reach. -/
def Fit {H : Type} (t : TypeId) (d : DataW H) : Prop := ∀ n ∈ DataW.weights Tryd.prog t d, n ≤ 140737488351232
theorem Fit.of {H : Type} {T : TypeId} {d : DataW H} (h : (DataW.weightsEach Tryd.prog [T] [d]).all (· ≤ reachBytes) = true) : Fit T d := by
  intro n hn
  have := List.all_eq_true.1 h n (DataW.weights_mem_each (j := 0) rfl rfl n hn)
  have h2 : n ≤ reachBytes := by simpa using this
  exact h2
theorem Fit.slice {H : Type} {t e : TypeId} {elems spare : List (DataW H)} (h : Fit t (.slice elems spare)) (ht : Tryd.prog.underlying t = some (.slice e)) :
    (elems.length + spare.length) * Tryd.prog.bytesOf e ≤ 140737488351232 ∧ ∀ x ∈ elems, Fit e x := by
  have hw : DataW.weights Tryd.prog t (.slice elems spare) = (elems.length + spare.length) * Tryd.prog.bytesOf e :: (DataW.weightsAll Tryd.prog e elems ++ DataW.weightsAll Tryd.prog e spare) := by
    simp [DataW.weights, ht]
  unfold Fit at h
  rw [hw] at h
  refine ⟨h _ (by simp), fun x hx n hn => h n ?_⟩
  have : ∀ l : List (DataW H), x ∈ l → n ∈ DataW.weightsAll Tryd.prog e l := by
    intro l
    induction l with
    | nil => intro h; cases h
    | cons a r ih =>
      intro h
      simp only [DataW.weightsAll, List.mem_append]
      rcases List.mem_cons.1 h with rfl | h
      · exact Or.inl hn
      · exact Or.inr (ih h)
  simp [this elems hx]
theorem Fit.struct {H : Type} {t : TypeId} {fs : Array Field} {ys : List (DataW H × List MemPlace)} (h : Fit t (.agg (ys.map (·.1)))) (ht : Tryd.prog.underlying t = some (.struct fs)) (j : Nat) (f : Field) (hf : fs[j]? = some f) (y : DataW H × List MemPlace) (hy : ys[j]? = some y) : Fit f.type y.1 := by
  intro n hn
  refine h n ?_
  have hw : DataW.weights Tryd.prog t (.agg (ys.map (·.1))) = DataW.weightsEach Tryd.prog (fs.toList.map (·.type)) (ys.map (·.1)) := by simp [DataW.weights, ht]
  rw [hw]
  refine DataW.weights_mem_each (j := j) (t := f.type) (d := y.1) ?_ ?_ n hn
  · rw [List.getElem?_map]
    simp [hf]
  · rw [List.getElem?_map, hy]; rfl
theorem bytes_u8 : Tryd.prog.bytesOf 5 = 1 := by kernel_rfl

section
variable {H : Type} {enc : TypeId × Value → H} {W : World}
theorem list_bytes {zs : List Int} (h : ∀ n ∈ zs, (Lit.int .u8 n).wf = true) : ∃ xs : List UInt8, zs = xs.map (fun x => (x.toNat : Int)) := by
  induction zs with
  | nil => exact ⟨[], rfl⟩
  | cons z zs ih =>
    obtain ⟨xs, rfl⟩ := ih (fun n hn => h n (List.mem_cons_of_mem _ hn))
    obtain ⟨x, hx⟩ := wf_byte (h z (List.mem_cons_self ..))
    exact ⟨x :: xs, by rw [hx]; rfl⟩
/-- bytes that came in. -/
theorem read_bytes {n : Nat} {cs : List Value} {x : DataW H × List MemPlace} (hfit : Fit 32 x.1) (h : DataW.trod enc Tryd.prog W 0 (fun _ => true) true n 32 cs = some x) :
    ∃ (xs : List UInt8) (A : Option Addr) (c : Nat), cs = [.slice A xs.length c] ∧ xs.length ≤ c ∧ c ≤ 140737488351232 ∧ RB W W.heap.size A xs := by
  rcases open_ints Tryd.underlying32 Tryd.underlying5 cells_u8 h with ⟨hcs, _⟩ | ⟨a, len, cap, zs, hcs, _, hl, _, hz, hxe, hc, hw⟩
  · exact ⟨[], none, 0, hcs, by simp, by simp, RB.nil⟩
  · obtain ⟨xs, rfl⟩ := list_bytes hw
    simp only [if_true, List.length_map] at hz
    have hm : cap ≤ 140737488351232 := by
      rw [hxe] at hfit
      have := (hfit.slice Tryd.underlying32).1
      rw [bytes_u8] at this
      simp [lits] at this
      omega
    refine ⟨xs.take len, some a, cap, ?_, ?_, hm, ?_, ?_⟩
    · rw [hcs, List.length_take, Nat.min_eq_left (by omega)]
    · rw [List.length_take]; omega
    · simp
    · intro hn
      rw [List.length_take] at hn
      have h0 := hc 0 (by simp; omega)
      have hlt : a.block < W.heap.size := by
        have := World.block_lt_of_cell? W _ h0
        rwa [block_of_add] at this
      refine ⟨a, rfl, hlt, ?_⟩
      intro j u hu
      have hj : j < (xs.take len).length := by
        rcases Nat.lt_or_ge j (xs.take len).length with h1 | h1
        · exact h1
        · rw [List.getElem?_eq_none (by simpa using h1)] at hu; cases hu
      rw [List.length_take] at hj
      have hjx : j < xs.length := by omega
      rw [hc j (by simpa using hjx)]
      rw [List.getElem?_map, List.getElem?_take_of_lt (by omega), List.getElem?_eq_getElem hjx] at hu
      simp only [Option.map_some, Option.some.injEq] at hu
      rw [← hu]
      simp [List.getD, List.getElem?_eq_getElem hjx]

/-- a slice whose elements take m cells each (m not 0), element by element. -/
theorem read_rows {T e : TypeId} {m : Nat} {v : Value} {d : DataW H} {p : List MemPlace} (ht : Tryd.prog.underlying T = some (.slice e)) (hm : Tryd.prog.cellsOf e = m) (hm0 : 0 < m) (h : Comes enc W T v d p) :
    ∃ (A : Option Addr) (len cap fuel : Nat), v = .slice A len cap ∧ len ≤ cap ∧ cap ≤ maxLen ∧ ∀ i, i < len → ∃ (b o : Nat) (cs : List Value) (x : DataW H × List MemPlace), A = some ⟨b, o, none⟩ ∧ b < W.heap.size ∧ cs.length = m ∧ (∀ j, j < m → W.cell? ⟨b, o + i * m + j, none⟩ = cs[j]?) ∧
      DataW.trod enc Tryd.prog W 0 (fun _ => true) true fuel e cs = some x ∧ Fit e x.1 := by
  obtain ⟨⟨fuel, hf⟩, hvb, hsz⟩ := h
  obtain ⟨a0, len, cap, rfl⟩ := okw_slice ht hvb
  rcases open_slice ht hf with ⟨hcs, _⟩ | ⟨a, len', cap', m', n, D, Pl, hcs, _, hl, hc, hmm, hxe, hi⟩
  · simp [Value.cells] at hcs
    obtain ⟨rfl, rfl, rfl⟩ := hcs
    exact ⟨none, 0, 0, 0, rfl, by omega, by simp, fun i hi => absurd hi (by omega)⟩
  · simp [Value.cells] at hcs
    obtain ⟨rfl, rfl, rfl⟩ := hcs
    simp only [if_true] at hmm
    refine ⟨some a, len, cap, n, rfl, hl, hc, fun i hlt => ?_⟩
    obtain ⟨cs', hcell, htr⟩ := hi i (by omega)
    obtain ⟨_, hlen, hat⟩ := World.cells?_some hcell
    rw [hm] at hlen
    have h0 := hat 0 (by omega)
    rw [List.getElem?_eq_getElem (by omega)] at h0
    obtain ⟨b, o, spot⟩ := a
    have hspot : spot = none := by
      obtain ⟨cs0, hcell0, _⟩ := hi 0 (by omega)
      obtain ⟨_, hlen0, hat0⟩ := World.cells?_some hcell0
      rw [hm] at hlen0
      have h00 := hat0 0 (by omega)
      rw [List.getElem?_eq_getElem (by omega)] at h00
      have := World.cell?_spot h00
      simpa [Addr.add] using this
    subst hspot
    have hb := World.block_lt_of_cell? W _ h0
    rw [block_of_add, block_of_add] at hb
    refine ⟨b, o, cs', _, rfl, hb, hlen, fun j hj => ?_, htr, ?_⟩
    rotate_left
    · simp only [Prod.mk.injEq] at hxe
      have hft := Fit.of hsz
      rw [hxe.1] at hft
      exact (hft.slice ht).2 _ (List.mem_map.2 ⟨i, List.mem_range.2 hlt, rfl⟩)
    have := hat j (by omega)
    rw [add_add, hm] at this
    rw [← this]
    refine congrArg W.cell? ?_
    unfold Addr.add
    by_cases h1 : i * m + j = 0
    · rw [if_pos h1, Nat.add_assoc, h1]; simp
    · rw [if_neg h1, Nat.add_assoc]
end

theorem okw_struct {P : Program} {W : World} {T : TypeId} {fs : Array Field} {v : Value} (ht : P.underlying T = some (.struct fs)) (h : ∃ base, Value.okWide P W .any base T v) : ∃ cs, v = .agg cs ∧ cs.size = P.cellsOf T := by
  obtain ⟨b, hv⟩ := h
  unfold Value.okWide at hv
  rw [ht] at hv
  obtain ⟨cs, h1, h2, _⟩ := hv
  exact ⟨cs, h1, h2⟩
end Go.Proofs.YtlacidnnankjlaaDoor

/-
  The listed tables, and a start at which they read so.
-/
namespace Go.Proofs.YtlacidnnankjlaaDoor
open Go.ChangeShapes Go.WideShapes Go.ChangeAt Go.RowKit Go.Deep

abbrev lay2 : List (String × DataW Unit) := [("unicode/utf8.acceptRanges", Rows.laid_unicode_utf8_acceptRanges), ("unicode/utf8.first", Rows.laid_unicode_utf8_first)]
set_option maxRecDepth 100000 in
theorem lay_first : (Rows.laid_unicode_utf8_first : DataW Unit) = Lib.firstData := by rfl
set_option maxRecDepth 100000 in
theorem lay_accept : (Rows.laid_unicode_utf8_acceptRanges : DataW Unit) = Lib.acceptData := by rfl
theorem plain_lay : (lay2.all fun x => x.2.handleName?.isNone) = true := by kernel_rfl
noncomputable def laidWorld (os : Os) : World :=
  let w0 := World.holding Tryd.prog os ⟨#[], #[], []⟩
  let put (h : Array Obj) (g : Nat) (cs : Array Value) : Array Obj := h.modify g fun
    | .cells _ t frozen => .cells cs t frozen
    | o => o
  let h1 := put w0.heap 0 (Lib.firstTab.map fun z => Value.int .u8 z).toArray
  let h2 := put h1 1 ((List.range 16).flatMap fun i => [Value.int .u8 (Lib.accLo i), Value.int .u8 (Lib.accHi i)]).toArray
  { w0 with heap := h2 }
theorem laid_door (os : Os) (args : Array Value) : laidMetH Tryd.prog lay2 ((laidWorld os).forCall (fun _ _ => 0) ⟨#[], args, []⟩).memory := by
  rw [MakeChecks.laidMetH_plain _ _ _ plain_lay]
  exact (LaidIn.of_run (l := lay2) [0, 1] 8 (by kernel_rfl) (by kernel_rfl) (by kernel_rfl) (by kernel_rfl)).met
end Go.Proofs.YtlacidnnankjlaaDoor
