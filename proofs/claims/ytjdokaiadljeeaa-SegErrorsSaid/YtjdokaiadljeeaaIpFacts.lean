/-
  What chapter 10's bytes are good for, in plain Lean: read back; cut off; a turned bit of the head.
-/
import Derived.Test.YtjdokaiadljeeaaIpPlain
import Derived.Test.YtjdokaiadljeeaaIcmpPlain
namespace Go.Proofs.Ytjdokaiadljeeaa

theorem check_put_at (qs : List UInt8) (p : Nat) (hp : p % 2 = 0) (h : p + 1 < qs.length) (h2 : qs[p]? = some 0) (h3 : qs[p + 1]? = some 0) :
    Sm.check ((qs.set p (UInt8.ofNat (Sm.check qs / 256))).set (p + 1) (UInt8.ofNat (Sm.check qs))) = 0 := by
  have e2 : (qs.set p 0).set (p + 1) 0 = qs := by rw [set_self' h2, set_self' h3]
  have hc := Sm.check_le qs
  have := Sm.check_mend qs p hp h (UInt8.ofNat (Sm.check qs / 256)) (UInt8.ofNat (Sm.check qs)) (by rw [e2, UInt8.toNat_ofNat']; omega) (by rw [e2, UInt8.toNat_ofNat'])
  rw [e2] at this
  exact this
theorem ipHead_check (s d p t i n : Nat) : Sm.check (ipHead s d p t i n) = 0 :=
  check_put_at (ipHead0 s d p t i n) 10 rfl (by rw [ipHead0_length]; omega) rfl rfl
theorem ipHead_form (s d p t i n : Nat) : ∃ u v, ipHead s d p t i n = 0x45 :: 0 :: (big 2 (20 + n) ++ (big 2 i ++ (0x40 :: 0 :: UInt8.ofNat t :: UInt8.ofNat p :: u :: v :: (big 4 s ++ big 4 d)))) := ⟨_, _, rfl⟩
theorem take_head (s d p t i n : Nat) (ys : List UInt8) : (ipHead s d p t i n ++ ys).take 20 = ipHead s d p t i n := by
  have := ipHead_length s d p t i n
  rw [List.take_append_of_le_length (by omega), List.take_of_length_le (by omega)]

section
variable (s d p t i n : Nat) (ys : List UInt8)
theorem hd_0 : b8 (ipHead s d p t i n ++ ys) 0 = 69 := rfl
theorem hd_N : ipN (ipHead s d p t i n ++ ys) = 20 := by unfold ipN; rw [hd_0]
theorem hd_len (h : 20 + n < 65536) : num2 (ipHead s d p t i n ++ ys) 2 2 = 20 + n := ofB_big 2 (20 + n) (by simpa using h)
theorem hd_id (h : i < 65536) : num2 (ipHead s d p t i n ++ ys) 4 2 = i := ofB_big 2 i (by simpa using h)
theorem hd_frag : num2 (ipHead s d p t i n ++ ys) 6 2 = 16384 := rfl
theorem hd_t (h : t < 256) : b8 (ipHead s d p t i n ++ ys) 8 = t := by
  show (UInt8.ofNat t).toNat = t
  rw [UInt8.toNat_ofNat']; omega
theorem hd_p (h : p < 256) : b8 (ipHead s d p t i n ++ ys) 9 = p := by
  show (UInt8.ofNat p).toNat = p
  rw [UInt8.toNat_ofNat']; omega
theorem hd_s (h : s < 4294967296) : num2 (ipHead s d p t i n ++ ys) 12 4 = s := ofB_big 4 s (by simpa using h)
theorem hd_d (h : d < 4294967296) : num2 (ipHead s d p t i n ++ ys) 16 4 = d := ofB_big 4 d (by simpa using h)
end

theorem parse_back (q : Pk) (h : q.ok = true) (ys : List UInt8) : parseOut (q.bytes ++ ys) = (q, 0) := by
  obtain ⟨⟨h1, h2⟩, ⟨h3, h4⟩, ⟨h5, h6⟩, ⟨h7, h8⟩, ⟨h9, h10⟩, h11⟩ := Pk.ok_iff.1 h
  obtain ⟨s, d, p, t, i, xs⟩ := q
  simp only at h1 h2 h3 h4 h5 h6 h7 h8 h9 h10 h11
  obtain ⟨s, rfl⟩ := Int.eq_ofNat_of_zero_le h1
  obtain ⟨d, rfl⟩ := Int.eq_ofNat_of_zero_le h3
  obtain ⟨p, rfl⟩ := Int.eq_ofNat_of_zero_le h5
  obtain ⟨t, rfl⟩ := Int.eq_ofNat_of_zero_le h7
  obtain ⟨i, rfl⟩ := Int.eq_ofNat_of_zero_le h9
  have hb : (Pk.mk s d p t i xs).bytes ++ ys = ipHead s d p t i xs.length ++ (xs ++ ys) := by simp [Pk.bytes]
  rw [hb]
  have e1 := hd_0 s d p t i xs.length (xs ++ ys)
  have e2 := hd_N s d p t i xs.length (xs ++ ys)
  have e3 := hd_len s d p t i xs.length (xs ++ ys) (by omega)
  have e4 := hd_id s d p t i xs.length (xs ++ ys) (by omega)
  have e5 := hd_frag s d p t i xs.length (xs ++ ys)
  have e6 := hd_t s d p t i xs.length (xs ++ ys) (by omega)
  have e7 := hd_p s d p t i xs.length (xs ++ ys) (by omega)
  have e8 := hd_s s d p t i xs.length (xs ++ ys) (by omega)
  have e9 := hd_d s d p t i xs.length (xs ++ ys) (by omega)
  have hl : (ipHead s d p t i xs.length ++ (xs ++ ys)).length = 20 + xs.length + ys.length := by simp [ipHead_length]; omega
  have hx : ((ipHead s d p t i xs.length ++ (xs ++ ys)).take (20 + xs.length)).drop 20 = xs := by
    have := ipHead_length s d p t i xs.length
    rw [List.drop_take, List.drop_append_of_le_length (by omega), List.drop_of_length_le (by omega)]
    simp
  unfold parseOut
  rw [e1, e2, e3, e5, hl, take_head, ipHead_check, if_neg (by omega), if_neg (by omega), if_neg (by omega), if_neg (by omega), if_neg (by omega), if_neg (by omega), if_neg (by omega)]
  unfold parsed
  rw [e2, e3, e4, e6, e7, e8, e9, hx]

theorem parse_cut (q : Pk) (h : q.ok = true) (k : Nat) (hk : k < 20 + q.xs.length) : parseOut (q.bytes.take k) = (Pk.zero, 7) := by
  have h11 := (Pk.ok_iff.1 h).2.2.2.2.2
  obtain ⟨s, d, p, t, i, xs⟩ := q
  simp only at h11 hk
  have hbl := Pk.bytes_length ⟨s, d, p, t, i, xs⟩
  by_cases h20 : k < 20
  · unfold parseOut
    rw [if_pos (by rw [List.length_take]; omega)]
  · have he : (Pk.mk s d p t i xs).bytes.take k = ipHead s.toNat d.toNat p.toNat t.toNat i.toNat xs.length ++ xs.take (k - 20) := by
      unfold Pk.bytes
      rw [List.take_append, ipHead_length, List.take_of_length_le (by rw [ipHead_length]; omega)]
    rw [he]
    have e1 := hd_0 s.toNat d.toNat p.toNat t.toNat i.toNat xs.length (xs.take (k - 20))
    have e2 := hd_N s.toNat d.toNat p.toNat t.toNat i.toNat xs.length (xs.take (k - 20))
    have e3 := hd_len s.toNat d.toNat p.toNat t.toNat i.toNat xs.length (xs.take (k - 20)) (by omega)
    have hl : (ipHead s.toNat d.toNat p.toNat t.toNat i.toNat xs.length ++ xs.take (k - 20)).length = k := by
      rw [List.length_append, ipHead_length, List.length_take]; omega
    unfold parseOut
    rw [e1, e2, e3, hl, if_neg (by omega), if_neg (by omega), if_neg (by omega), if_neg (by omega), if_pos (by omega)]

theorem parse_zero (zs : List UInt8) (h : (parseOut zs).2 = 0) : Sm.check (zs.take (ipN zs)) = 0 := by
  revert h
  unfold parseOut
  split
  · intro h; simp at h
  · split
    · intro h; simp at h
    · split
      · intro h; simp at h
      · split
        · intro h; simp at h
        · split
          · intro h; simp at h
          · split
            · intro h; simp at h
            · rename_i h6; intro _; exact Decidable.not_not.1 h6

theorem parse_turned (q : Pk) (j b : Nat) (hj : 1 ≤ j) (hj2 : j < 20) (hb : b < 8) (x : UInt8) (hx : q.bytes[j]? = some x) : (parseOut (q.bytes.set j (turnBit x b))).2 ≠ 0 := by
  intro h
  have h0 := parse_zero _ h
  have hl := ipHead_length q.s.toNat q.d.toNat q.p.toNat q.t.toNat q.i.toNat q.xs.length
  have he : q.bytes.set j (turnBit x b) = (ipHead q.s.toNat q.d.toNat q.p.toNat q.t.toNat q.i.toNat q.xs.length).set j (turnBit x b) ++ q.xs := by
    unfold Pk.bytes
    rw [List.set_append_left _ _ (by omega)]
  have hx' : (ipHead q.s.toNat q.d.toNat q.p.toNat q.t.toNat q.i.toNat q.xs.length)[j]? = some x := by
    unfold Pk.bytes at hx
    rwa [List.getElem?_append_left (by omega)] at hx
  have hn : ipN (q.bytes.set j (turnBit x b)) = 20 := by
    unfold ipN b8
    rw [List.getElem?_set_ne (by omega)]
    have h0 : q.bytes[0]? = some 69 := rfl
    rw [h0]
    rfl
  rw [hn, he, List.take_append_of_le_length (by simp [hl]), List.take_of_length_le (by simp [hl])] at h0
  have := Sm.check_turn _ j x hx' hb
  rw [h0, ipHead_check] at this
  exact this rfl

end Go.Proofs.Ytjdokaiadljeeaa
