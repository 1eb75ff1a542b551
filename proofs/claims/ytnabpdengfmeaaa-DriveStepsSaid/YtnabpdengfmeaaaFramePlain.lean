/- Layer 3 without any program: frames as lists of bytes, what they are read as, and that a change of two bytes side by side is seen. -/
import Derived.Test.YtnabpdengfmeaaaCrc
namespace Fr

/-- the eight bytes of a place, the highest first -/
def placeL (p : Int) : List Int := (List.range 8).map fun i => p / 256 ^ (7 - i) % 256
def bodyL (sign seq w p : Int) : List Int := [sign, seq, w] ++ placeL p
/-- two bytes of a sum, the higher first -/
def sumL (s : Nat) : List Int := [((s / 256 : Nat) : Int), ((s % 256 : Nat) : Int)]
def frameL (sign seq w p : Int) : List Int := bodyL sign seq w p ++ sumL (Crc.go 65535 (bodyL sign seq w p))

theorem placeL_len (p : Int) : (placeL p).length = 8 := by simp [placeL]
theorem bodyL_len (sign seq w p : Int) : (bodyL sign seq w p).length = 11 := by simp [bodyL, placeL]
theorem frameL_len (sign seq w p : Int) : (frameL sign seq w p).length = 13 := by simp [frameL, bodyL_len, sumL]
theorem placeL_bytes (p : Int) : Crc.Bytes (placeL p) := by
  intro z hz
  obtain ⟨i, _, rfl⟩ := List.mem_map.1 hz
  constructor
  · exact Int.emod_nonneg _ (by decide)
  · exact Int.emod_lt_of_pos _ (by decide)
theorem bodyL_bytes {sign seq w : Int} (p : Int) (h1 : 0 ≤ sign ∧ sign < 256) (h2 : 0 ≤ seq ∧ seq < 256) (h3 : 0 ≤ w ∧ w < 256) : Crc.Bytes (bodyL sign seq w p) := by
  apply Crc.bytes_append _ (placeL_bytes p)
  intro z hz
  simp at hz
  omega
theorem sumL_bytes {s : Nat} (h : s < 65536) : Crc.Bytes (sumL s) := by
  intro z hz
  simp [sumL] at hz
  omega
theorem frameL_bytes {sign seq w : Int} (p : Int) (h1 : 0 ≤ sign ∧ sign < 256) (h2 : 0 ≤ seq ∧ seq < 256) (h3 : 0 ≤ w ∧ w < 256) : Crc.Bytes (frameL sign seq w p) :=
  Crc.bytes_append (bodyL_bytes p h1 h2 h3) (sumL_bytes (Crc.go_lt _ _ (by omega) (bodyL_bytes p h1 h2 h3)))

/-- the number of some bytes, the highest first -/
def numL (l : List Int) : Int := l.foldl (fun n b => n * 256 + b) 0
/-- the number as one of 64 bits with a sign -/
def toSigned (n : Int) : Int := (n + 9223372036854775808) % 18446744073709551616 - 9223372036854775808
def sumFits (l : List Int) : Bool := decide (Crc.go 65535 (l.take 11) = (l.getD 11 0 * 256 + l.getD 12 0).toNat)
structure Got where
  seq : Int
  word : Int
  place : Int
  err : Int
/-- what any bytes are read as -/
def readN (sign most : Int) (l : List Int) : Got :=
  if l.length < 13 then ⟨0, 0, 0, 4⟩ else if 13 < l.length then ⟨0, 0, 0, 13⟩ else if sumFits l = false then ⟨0, 0, 0, 6⟩
  else if l.getD 0 0 ≠ sign ∨ most < l.getD 2 0 then ⟨0, 0, 0, 5⟩ else ⟨l.getD 1 0, l.getD 2 0, toSigned (numL ((l.take 11).drop 3)), 0⟩

theorem num_place (p : Int) : numL (placeL p) = p % 18446744073709551616 := by
  simp only [numL, placeL, List.range, List.range.loop, List.map, List.foldl]
  simp only [Nat.reduceSub, Int.reducePow]
  omega
theorem toSigned_mod (p : Int) (h : -9223372036854775808 ≤ p ∧ p ≤ 9223372036854775807) : toSigned (p % 18446744073709551616) = p := by
  unfold toSigned; omega

theorem xor_low (a b : Nat) (hb : b < 256) : a * 256 ^^^ b = a * 256 + b := by
  have h3 : a <<< 8 + b = a <<< 8 ||| b := Nat.shiftLeft_add_eq_or_of_lt (by omega) _
  rw [Nat.shiftLeft_eq, show (2:Nat) ^ 8 = 256 from rfl] at h3
  rw [h3]
  apply Nat.eq_of_testBit_eq
  intro i
  rw [Nat.testBit_xor, Nat.testBit_or]
  by_cases hi : i < 8
  · have : (a * 256).testBit i = false := by
      have := @Nat.testBit_mul_two_pow a i 8
      rw [show (256:Nat) = 2 ^ 8 from rfl, this]; simp; omega
    simp [this]
  · have : b.testBit i = false := Nat.testBit_lt_two_pow (Nat.lt_of_lt_of_le (show b < 2 ^ 8 by omega) (Nat.pow_le_pow_right (by omega) (by omega)))
    simp [this]
theorem two_zero (s a b : Nat) (hs : s < 65536) (ha : a < 256) (hb : b < 256) : Crc.byte (Crc.byte s a) b = 0 ↔ s = a * 256 + b := by
  rw [Crc.byte_byte _ _ _ hb, xor_low _ _ hb]
  constructor
  · intro h
    have := Crc.bits_inj 16 _ _ (Nat.xor_lt_two_pow (n := 16) hs (by omega)) (by omega) (h.trans (Crc.bits_zero 16).symm)
    exact (Crc.xor_eq_zero _ _).1 this
  · intro h
    rw [h, Nat.xor_self, Crc.bits_zero]

/-- a sum fits just where the register behind all the thirteen bytes is 0 -/
theorem fits_iff (l : List Int) (hl : l.length = 13) (hB : Crc.Bytes l) : sumFits l = true ↔ Crc.go 65535 l = 0 := by
  have h11 := Crc.bytes_at hB 11
  have h12 := Crc.bytes_at hB 12
  have hg := Crc.take_lt (s := 65535) (by omega) hB 11
  have e12 : Crc.go 65535 (l.take 12) = Crc.byte (Crc.go 65535 (l.take 11)) (l.getD 11 0).toNat := Crc.go_snoc 65535 l 11 (by omega)
  have e13 : Crc.go 65535 (l.take 13) = Crc.byte (Crc.go 65535 (l.take 12)) (l.getD 12 0).toNat := Crc.go_snoc 65535 l 12 (by omega)
  rw [List.take_of_length_le (by omega), e12] at e13
  rw [e13, two_zero _ _ _ hg (by omega) (by omega)]
  unfold sumFits
  rw [decide_eq_true_iff]
  have e : (l.getD 11 0 * 256 + l.getD 12 0).toNat = (l.getD 11 0).toNat * 256 + (l.getD 12 0).toNat := by omega
  rw [e]

theorem frame_fits {sign seq w : Int} (p : Int) (h1 : 0 ≤ sign ∧ sign < 256) (h2 : 0 ≤ seq ∧ seq < 256) (h3 : 0 ≤ w ∧ w < 256) : sumFits (frameL sign seq w p) = true := by
  have hs := Crc.go_lt (bodyL sign seq w p) 65535 (by omega) (bodyL_bytes p h1 h2 h3)
  rw [fits_iff _ (frameL_len _ _ _ _) (frameL_bytes p h1 h2 h3)]
  unfold frameL
  rw [Crc.go_append]
  generalize Crc.go 65535 (bodyL sign seq w p) = s at *
  show Crc.byte (Crc.byte s (((s / 256 : Nat) : Int)).toNat) (((s % 256 : Nat) : Int)).toNat = 0
  rw [Int.toNat_natCast, Int.toNat_natCast, two_zero _ _ _ hs (by omega) (by omega)]
  omega
theorem frame_at {sign seq w p : Int} : (frameL sign seq w p).getD 0 0 = sign ∧ (frameL sign seq w p).getD 1 0 = seq ∧ (frameL sign seq w p).getD 2 0 = w ∧ ((frameL sign seq w p).take 11).drop 3 = placeL p := by
  refine ⟨rfl, rfl, rfl, ?_⟩
  unfold frameL
  rw [List.take_left' (bodyL_len sign seq w p)]
  rfl
/-- WHAT WAS PUT IS READ. -/
theorem read_frame {sign seq w : Int} (most p : Int) (h1 : 0 ≤ sign ∧ sign < 256) (h2 : 0 ≤ seq ∧ seq < 256) (h3 : 0 ≤ w ∧ w ≤ most) (hm : most < 256) (hp : -9223372036854775808 ≤ p ∧ p ≤ 9223372036854775807) :
    readN sign most (frameL sign seq w p) = ⟨seq, w, p, 0⟩ := by
  have hf := frame_fits p h1 h2 (show 0 ≤ w ∧ w < 256 by omega)
  have ha := @frame_at sign seq w p
  unfold readN
  rw [frameL_len, if_neg (by omega), if_neg (by omega), hf, if_neg (by simp), ha.1, ha.2.1, ha.2.2.1, ha.2.2.2, if_neg (by omega), num_place, toSigned_mod p hp]
theorem read_other {sign other seq w : Int} (most p : Int) (h1 : 0 ≤ sign ∧ sign < 256) (h2 : 0 ≤ seq ∧ seq < 256) (h3 : 0 ≤ w ∧ w < 256) (ho : sign ≠ other) :
    readN other most (frameL sign seq w p) = ⟨0, 0, 0, 5⟩ := by
  have hf := frame_fits p h1 h2 h3
  have ha := @frame_at sign seq w p
  unfold readN
  rw [frameL_len, if_neg (by omega), if_neg (by omega), hf, if_neg (by simp), ha.1, if_pos (Or.inl ho)]
theorem place_succ (p : Int) (m : Nat) (hm : m ≤ 7) : (placeL p).take (8 - m) = (placeL p).take (8 - (m + 1)) ++ [p / 2 ^ (8 * m) % 256] := by
  match m, hm with
  | 0, _ | 1, _ | 2, _ | 3, _ | 4, _ | 5, _ | 6, _ | 7, _ => simp [placeL, List.range, List.range.loop]
theorem num_snoc (l : List Int) (k : Nat) (h : k < l.length) : numL (l.take (k + 1)) = numL (l.take k) * 256 + l.getD k 0 := by
  rw [List.take_succ_eq_append_getElem h, numL, List.foldl_append]
  simp [numL, List.getD, h]
theorem num_bound (l : List Int) (hB : Crc.Bytes l) : ∀ k : Nat, 0 ≤ numL (l.take k) ∧ numL (l.take k) < 256 ^ k := by
  intro k
  induction k with
  | zero => simp [numL]
  | succ k ih =>
    have hb := Crc.bytes_at hB k
    by_cases h : k < l.length
    · rw [num_snoc l k h, Int.pow_succ]; omega
    · rw [List.take_of_length_le (by omega)]
      rw [List.take_of_length_le (by omega)] at ih
      rw [Int.pow_succ]; omega
theorem num_56 (l : List Int) (hB : Crc.Bytes l) (k : Nat) (hk : k ≤ 7) : 0 ≤ numL (l.take k) ∧ numL (l.take k) < 72057594037927936 := by
  have h := num_bound l hB k
  have : (256 : Int) ^ k ≤ 256 ^ 7 := by
    match k, hk with
    | 0, _ | 1, _ | 2, _ | 3, _ | 4, _ | 5, _ | 6, _ | 7, _ => decide
  have e : (256 : Int) ^ 7 = 72057594037927936 := by decide
  omega
theorem drop_at (l : List Int) (k : Nat) (hk : k < 8) : ((l.take 11).drop 3).getD k 0 = l.getD (3 + k) 0 := by
  simp only [List.getD, List.getElem?_drop, List.getElem?_take]
  rw [if_pos (by omega)]
end Fr
