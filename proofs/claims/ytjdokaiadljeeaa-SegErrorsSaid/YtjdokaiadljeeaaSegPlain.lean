/-
  Chapter 13 in plain Lean: a segment's bytes between two addresses; what bytes are as a segment; there and back; turned bits.
-/
import Derived.Test.YtjdokaiadljeeaaIpFacts
namespace Go.Proofs.Ytjdokaiadljeeaa

/-- a segment's numbers and bytes. -/
structure Sg where
  sp : Int
  dp : Int
  sq : Int
  ak : Int
  fl : Int
  wn : Int
  xs : List UInt8
def Sg.ok (q : Sg) : Bool := inR q.sp 65535 && (inR q.dp 65535 && (inR q.sq 4294967295 && (inR q.ak 4294967295 && (inR q.fl 63 && (inR q.wn 65535 && decide (q.xs.length ≤ 1460))))))
theorem Sg.ok_iff {q : Sg} : q.ok = true ↔ (0 ≤ q.sp ∧ q.sp ≤ 65535) ∧ (0 ≤ q.dp ∧ q.dp ≤ 65535) ∧ (0 ≤ q.sq ∧ q.sq ≤ 4294967295) ∧ (0 ≤ q.ak ∧ q.ak ≤ 4294967295) ∧ (0 ≤ q.fl ∧ q.fl ≤ 63) ∧ (0 ≤ q.wn ∧ q.wn ≤ 65535) ∧ q.xs.length ≤ 1460 := by
  simp only [Sg.ok, Bool.and_eq_true, inR_iff, decide_eq_true_eq]
/-- what goes ahead of a segment for its sum. -/
def segHd (src dst n : Nat) : List UInt8 := big 4 src ++ big 4 dst ++ [0, 6] ++ big 2 n
theorem segHd_length (src dst n : Nat) : (segHd src dst n).length = 12 := by simp [segHd, big_length]
/-- the sum of bytes between two addresses. -/
def segSum (src dst : Nat) (xs : List UInt8) : Nat := Sm.check (segHd src dst xs.length ++ xs)
theorem segSum_le (src dst : Nat) (xs : List UInt8) : segSum src dst xs ≤ 65535 := Sm.check_le _
def sgHead0 (sp dp sq ak fl wn : Nat) : List UInt8 := big 2 sp ++ big 2 dp ++ big 4 sq ++ big 4 ak ++ [0x50, UInt8.ofNat fl] ++ big 2 wn ++ [0, 0, 0, 0]
theorem sgHead0_length (sp dp sq ak fl wn : Nat) : (sgHead0 sp dp sq ak fl wn).length = 20 := by simp [sgHead0, big_length]
def sgPut (zs : List UInt8) (v : Nat) : List UInt8 := (zs.set 16 (UInt8.ofNat (v / 256))).set (16 + 1) (UInt8.ofNat v)
def sgBytes (src dst sp dp sq ak fl wn : Nat) (xs : List UInt8) : List UInt8 :=
  sgPut (sgHead0 sp dp sq ak fl wn ++ xs) (segSum src dst (sgHead0 sp dp sq ak fl wn ++ xs))
theorem sgPut_length (zs : List UInt8) (v : Nat) : (sgPut zs v).length = zs.length := by simp [sgPut]
theorem sgBytes_length (src dst sp dp sq ak fl wn : Nat) (xs : List UInt8) : (sgBytes src dst sp dp sq ak fl wn xs).length = 20 + xs.length := by
  rw [sgBytes, sgPut_length, List.length_append, sgHead0_length]
def Sg.bytes (src dst : Nat) (q : Sg) : List UInt8 := sgBytes src dst q.sp.toNat q.dp.toNat q.sq.toNat q.ak.toNat q.fl.toNat q.wn.toNat q.xs

def Sg.zero : Sg := ⟨0, 0, 0, 0, 0, 0, []⟩
def sgN (xs : List UInt8) : Nat := 4 * (b8 xs 12 / 16)
def sgParsed (xs : List UInt8) : Sg := ⟨num2 xs 0 2, num2 xs 2 2, num2 xs 4 4, num2 xs 8 4, ((b8 xs 13 % 64 : Nat) : Int), num2 xs 14 2, xs.drop (sgN xs)⟩
def wordB (n : Int) : Bool := inR n 4294967295
/-- the segment that bytes are between two addresses, or what is wrong. -/
def segOut (src dst : Int) (xs : List UInt8) : Sg × Int :=
  if wordB src = false ∨ wordB dst = false then (.zero, 1)
  else if xs.length < 20 then (.zero, 7)
  else if sgN xs < 20 then (.zero, 1)
  else if xs.length < sgN xs then (.zero, 7)
  else if 1480 < xs.length then (.zero, 2)
  else if segSum src.toNat dst.toNat xs ≠ 0 then (.zero, 8)
  else (sgParsed xs, 0)

theorem segOut_len (src dst : Int) (xs : List UInt8) : (segOut src dst xs).1.xs.length ≤ xs.length := by
  unfold segOut
  repeat' split
  all_goals first | (simp [Sg.zero]; done) | skip
  simp [sgParsed]

theorem word_nat (n : Nat) (h : n < 4294967296) : wordB (n : Int) = true := inR_iff.2 ⟨by omega, by omega⟩

/-- what is set behind a beginning. -/
theorem set_behind (hd zs : List UInt8) (p : Nat) (u : UInt8) : (hd ++ zs).set (hd.length + p) u = hd ++ zs.set p u := by
  rw [List.set_append_right _ _ (by omega)]
  congr 2; omega
theorem segSum_bytes (src dst sp dp sq ak fl wn : Nat) (xs : List UInt8) : segSum src dst (sgBytes src dst sp dp sq ak fl wn xs) = 0 := by
  have hl : (sgBytes src dst sp dp sq ak fl wn xs).length = (sgHead0 sp dp sq ak fl wn ++ xs).length := by rw [sgBytes, sgPut_length]
  unfold segSum
  rw [hl]
  unfold sgBytes segSum
  have h0 := sgHead0_length sp dp sq ak fl wn
  obtain ⟨zs, hzs⟩ : ∃ zs, zs = sgHead0 sp dp sq ak fl wn ++ xs := ⟨_, rfl⟩
  have g0 : zs[16]? = some 0 := by rw [hzs]; rfl
  have g1 : zs[17]? = some 0 := by rw [hzs]; rfl
  have hzl : 20 ≤ zs.length := by rw [hzs, List.length_append]; omega
  rw [← hzs]
  have hh := segHd_length src dst zs.length
  have := check_put_at (segHd src dst zs.length ++ zs) 28 rfl (by rw [List.length_append]; omega)
    (by rw [List.getElem?_append_right (by omega), hh]; exact g0) (by rw [List.getElem?_append_right (by omega), hh]; exact g1)
  have e1 := set_behind (segHd src dst zs.length) zs 16
  have e2 := fun ys => set_behind (segHd src dst zs.length) ys 17
  rw [hh] at e1 e2
  rw [e1, e2] at this
  exact this

section
variable (src dst sp dp sq ak fl wn : Nat) (xs : List UInt8)
theorem sg_form : ∃ u v, sgBytes src dst sp dp sq ak fl wn xs = big 2 sp ++ (big 2 dp ++ (big 4 sq ++ (big 4 ak ++ (0x50 :: UInt8.ofNat fl :: (big 2 wn ++ (u :: v :: 0 :: 0 :: xs)))))) := ⟨_, _, rfl⟩
theorem sg_12 : b8 (sgBytes src dst sp dp sq ak fl wn xs) 12 = 80 := rfl
theorem sg_N : sgN (sgBytes src dst sp dp sq ak fl wn xs) = 20 := by unfold sgN; rw [sg_12]
theorem sg_13 (h : fl < 256) : b8 (sgBytes src dst sp dp sq ak fl wn xs) 13 = fl := by
  show (UInt8.ofNat fl).toNat = fl
  rw [UInt8.toNat_ofNat']; omega
theorem sg_0 (h : sp < 65536) : num2 (sgBytes src dst sp dp sq ak fl wn xs) 0 2 = sp := ofB_big 2 sp (by simpa using h)
theorem sg_2 (h : dp < 65536) : num2 (sgBytes src dst sp dp sq ak fl wn xs) 2 2 = dp := ofB_big 2 dp (by simpa using h)
theorem sg_4 (h : sq < 4294967296) : num2 (sgBytes src dst sp dp sq ak fl wn xs) 4 4 = sq := ofB_big 4 sq (by simpa using h)
theorem sg_8 (h : ak < 4294967296) : num2 (sgBytes src dst sp dp sq ak fl wn xs) 8 4 = ak := ofB_big 4 ak (by simpa using h)
theorem sg_14 (h : wn < 65536) : num2 (sgBytes src dst sp dp sq ak fl wn xs) 14 2 = wn := ofB_big 2 wn (by simpa using h)
theorem sg_drop : (sgBytes src dst sp dp sq ak fl wn xs).drop 20 = xs := rfl
end

theorem segSum_swap (src dst : Nat) (xs : List UInt8) : segSum dst src xs = segSum src dst xs := by
  unfold segSum
  rw [Sm.check_eq_iff]
  have h : Sm.tot (segHd dst src xs.length ++ xs) = Sm.tot (segHd src dst xs.length ++ xs) := by
    rw [Sm.tot_append_even _ _ (by rw [segHd_length]), Sm.tot_append_even _ _ (by rw [segHd_length])]
    unfold segHd
    simp only [List.append_assoc]
    rw [Sm.tot_append_even (big 4 dst) _ (by rw [big_length]), Sm.tot_append_even (big 4 src) _ (by rw [big_length]), Sm.tot_append_even (big 4 src) _ (by rw [big_length]), Sm.tot_append_even (big 4 dst) _ (by rw [big_length])]
    omega
  unfold Sm.add
  rw [h]

theorem seg_back (src dst : Nat) (_hs : src < 4294967296) (_hd : dst < 4294967296) (q : Sg) (h : q.ok = true) (src' dst' : Nat) (hs' : src' < 4294967296) (hd' : dst' < 4294967296) (hsum : segSum src' dst' (q.bytes src dst) = 0) : segOut src' dst' (q.bytes src dst) = (q, 0) := by
  obtain ⟨⟨h1, h2⟩, ⟨h3, h4⟩, ⟨h5, h6⟩, ⟨h7, h8⟩, ⟨h9, h10⟩, ⟨h11, h12⟩, h13⟩ := Sg.ok_iff.1 h
  obtain ⟨sp, dp, sq, ak, fl, wn, xs⟩ := q
  simp only at h1 h2 h3 h4 h5 h6 h7 h8 h9 h10 h11 h12 h13
  obtain ⟨sp, rfl⟩ := Int.eq_ofNat_of_zero_le h1
  obtain ⟨dp, rfl⟩ := Int.eq_ofNat_of_zero_le h3
  obtain ⟨sq, rfl⟩ := Int.eq_ofNat_of_zero_le h5
  obtain ⟨ak, rfl⟩ := Int.eq_ofNat_of_zero_le h7
  obtain ⟨fl, rfl⟩ := Int.eq_ofNat_of_zero_le h9
  obtain ⟨wn, rfl⟩ := Int.eq_ofNat_of_zero_le h11
  have hb : (Sg.mk sp dp sq ak fl wn xs).bytes src dst = sgBytes src dst sp dp sq ak fl wn xs := rfl
  rw [hb] at hsum ⊢
  have hl := sgBytes_length src dst sp dp sq ak fl wn xs
  have e0 := sg_N src dst sp dp sq ak fl wn xs
  unfold segOut
  rw [word_nat src' hs', word_nat dst' hd', e0, hl, if_neg (by simp), if_neg (by omega), if_neg (by omega), if_neg (by omega), if_neg (by omega), Int.toNat_natCast, Int.toNat_natCast, hsum, if_neg (by omega)]
  unfold sgParsed
  rw [e0, sg_0 _ _ _ _ _ _ _ _ _ (by omega), sg_2 _ _ _ _ _ _ _ _ _ (by omega), sg_4 _ _ _ _ _ _ _ _ _ (by omega), sg_8 _ _ _ _ _ _ _ _ _ (by omega), sg_13 _ _ _ _ _ _ _ _ _ (by omega), sg_14 _ _ _ _ _ _ _ _ _ (by omega), sg_drop, Nat.mod_eq_of_lt (by omega)]

theorem seg_same (src dst : Nat) (hs : src < 4294967296) (hd : dst < 4294967296) (q : Sg) (h : q.ok = true) : segOut src dst (q.bytes src dst) = (q, 0) :=
  seg_back src dst hs hd q h src dst hs hd (segSum_bytes ..)
theorem seg_turned_round (src dst : Nat) (hs : src < 4294967296) (hd : dst < 4294967296) (q : Sg) (h : q.ok = true) : segOut dst src (q.bytes src dst) = (q, 0) :=
  seg_back src dst hs hd q h dst src hd hs (by rw [segSum_swap]; exact segSum_bytes ..)

theorem segOut_zero (src dst : Int) (zs : List UInt8) (h : (segOut src dst zs).2 = 0) : segSum src.toNat dst.toNat zs = 0 := by
  revert h
  unfold segOut
  split
  · intro h; simp at h
  · split
    · intro h; simp at h
    · split
      · intro h; simp at h
      · split
        · intro h; simp at h
        · split
          · intro h; simp at h
          · split
            · intro h; simp at h
            · rename_i h6; intro _; exact Decidable.not_not.1 h6

/-- one bit of the bytes turned: no segment. -/
theorem seg_turned (src dst : Nat) (q : Sg) (j b : Nat) (hb : b < 8) (x : UInt8) (hx : (q.bytes src dst)[j]? = some x) : (segOut src dst ((q.bytes src dst).set j (turnBit x b))).2 ≠ 0 := by
  intro h
  have h0 := segOut_zero _ _ _ h
  have h1 : segSum src dst (q.bytes src dst) = 0 := segSum_bytes ..
  rw [Int.toNat_natCast, Int.toNat_natCast] at h0
  unfold segSum at h0 h1
  rw [List.length_set, ← set_behind] at h0
  generalize q.bytes src dst = zs at *
  generalize segHd src dst zs.length = hd at *
  have hx' : (hd ++ zs)[hd.length + j]? = some x := by
    rw [List.getElem?_append_right (by omega), Nat.add_sub_cancel_left]; exact hx
  have := Sm.check_turn (hd ++ zs) (hd.length + j) x hx' hb
  rw [h0, h1] at this
  exact this rfl

theorem tot_big4 (n : Nat) (h : n < 4294967296) : Sm.tot (big 4 n) = n / 65536 + n % 65536 := by
  simp only [big, Sm.tot, UInt8.toNat_ofNat']
  omega
theorem xor_par (a b : Nat) : (a ^^^ b) % 2 = (a + b) % 2 := by
  have := Nat.xor_mod_two_eq_one (a := a) (b := b)
  omega
theorem xor_bit : ∀ (k src : Nat), (src ^^^ 2 ^ k) = src + 2 ^ k ∨ (src ^^^ 2 ^ k) + 2 ^ k = src
  | 0, src => by
    have h1 : (src ^^^ 1) / 2 = src / 2 := by rw [Nat.xor_div_two]; simp
    have h2 : (src ^^^ 1) % 2 = (src + 1) % 2 := xor_par _ _
    simp only [Nat.pow_zero]
    omega
  | k + 1, src => by
    have ih := xor_bit k (src / 2)
    have h1 : (src ^^^ 2 ^ (k + 1)) / 2 = src / 2 ^^^ 2 ^ k := by rw [Nat.xor_div_two]; congr 1; rw [Nat.pow_succ]; omega
    have h2 : (src ^^^ 2 ^ (k + 1)) % 2 = (src + 2 ^ (k + 1)) % 2 := xor_par _ _
    rw [← h1] at ih
    rw [Nat.pow_succ] at *
    omega
theorem tot_turn (n k : Nat) (hn : n < 4294967296) (hk : k < 32) : ∃ d, 1 ≤ d ∧ d < 65535 ∧ (n ^^^ 2 ^ k) < 4294967296 ∧ (Sm.tot (big 4 (n ^^^ 2 ^ k)) = Sm.tot (big 4 n) + d ∨ Sm.tot (big 4 (n ^^^ 2 ^ k)) + d = Sm.tot (big 4 n)) := by
  have hlt : (n ^^^ 2 ^ k) < 2 ^ 32 := Nat.xor_lt_two_pow (by omega) (Nat.pow_lt_pow_right (by omega) hk)
  have hlt' : (n ^^^ 2 ^ k) < 4294967296 := by omega
  rw [tot_big4 _ hlt', tot_big4 _ hn]
  have h1 : (n ^^^ 2 ^ k) / 65536 = n / 65536 ^^^ 2 ^ k / 65536 := Nat.xor_div_two_pow (n := 16)
  have h2 : (n ^^^ 2 ^ k) % 65536 = n % 65536 ^^^ 2 ^ k % 65536 := Nat.xor_mod_two_pow (n := 16)
  by_cases h16 : k < 16
  · have hp : 2 ^ k < 2 ^ 16 := Nat.pow_lt_pow_right (by omega) h16
    have hp2 : 2 ^ k ≤ 2 ^ 15 := Nat.pow_le_pow_right (by omega) (by omega)
    have hp1 : 1 ≤ 2 ^ k := Nat.one_le_two_pow
    have hz : 2 ^ k / 65536 = 0 := Nat.div_eq_of_lt (by omega)
    have hm : 2 ^ k % 65536 = 2 ^ k := Nat.mod_eq_of_lt (by omega)
    rw [hz, Nat.xor_zero] at h1
    rw [hm] at h2
    have := xor_bit k (n % 65536)
    exact ⟨2 ^ k, hp1, by omega, hlt', by omega⟩
  · obtain ⟨j, rfl⟩ : ∃ j, k = j + 16 := ⟨k - 16, by omega⟩
    have hp : 2 ^ (j + 16) = 2 ^ j * 65536 := by rw [Nat.pow_add]
    have hp2 : 2 ^ j ≤ 2 ^ 15 := Nat.pow_le_pow_right (by omega) (by omega)
    have hp1 : 1 ≤ 2 ^ j := Nat.one_le_two_pow
    rw [hp] at h1 h2 hlt' ⊢
    rw [Nat.mul_div_cancel _ (by omega)] at h1
    rw [Nat.mul_mod_left, Nat.xor_zero] at h2
    have := xor_bit j (n / 65536)
    exact ⟨2 ^ j, hp1, by omega, hlt', by omega⟩
theorem tot_hd (src dst n : Nat) (xs : List UInt8) : Sm.tot (segHd src dst n ++ xs) = Sm.tot (big 4 src) + (Sm.tot (big 4 dst ++ ([0, 6] ++ big 2 n)) + Sm.tot xs) := by
  rw [Sm.tot_append_even _ _ (by rw [segHd_length])]
  unfold segHd
  simp only [List.append_assoc]
  rw [Sm.tot_append_even (big 4 src) _ (by rw [big_length])]
  omega
/-- one bit of an address turned: another sum. -/
theorem segSum_turn (src dst k : Nat) (xs : List UInt8) (hs : src < 4294967296) (hk : k < 32) : (src ^^^ 2 ^ k) < 4294967296 ∧ segSum (src ^^^ 2 ^ k) dst xs ≠ segSum src dst xs := by
  obtain ⟨d, h1, h2, h3, h4⟩ := tot_turn src k hs hk
  refine ⟨h3, ?_⟩
  unfold segSum
  rw [Ne, Sm.check_eq_iff]
  unfold Sm.add
  apply Sm.fold_apart (d := d) _ h1 h2
  rw [tot_hd, tot_hd]
  omega
theorem seg_away (src dst k : Nat) (hs : src < 4294967296) (hd : dst < 4294967296) (hk : k < 32) (q : Sg) (h : q.ok = true) : segOut ((src ^^^ 2 ^ k : Nat) : Int) dst (q.bytes src dst) = (Sg.zero, 8) := by
  have h13 := (Sg.ok_iff.1 h).2.2.2.2.2.2
  obtain ⟨h1, h2⟩ := segSum_turn src dst k (q.bytes src dst) hs hk
  have h3 : segSum src dst (q.bytes src dst) = 0 := segSum_bytes ..
  rw [h3] at h2
  have hl : (q.bytes src dst).length = 20 + q.xs.length := sgBytes_length ..
  have e0 : sgN (q.bytes src dst) = 20 := sg_N ..
  unfold segOut
  rw [word_nat _ h1, word_nat dst hd, e0, hl, if_neg (by simp), if_neg (by omega), if_neg (by omega), if_neg (by omega), if_neg (by omega), Int.toNat_natCast, Int.toNat_natCast, if_pos h2]

end Go.Proofs.Ytjdokaiadljeeaa
