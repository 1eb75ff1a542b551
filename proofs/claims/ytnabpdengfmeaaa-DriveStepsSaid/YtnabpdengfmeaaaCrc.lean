/- Plain law of the 16 bit register. -/
namespace Crc

/-- one place up: the register's highest bit against a 0. -/
def bit (s : Nat) : Nat := (2 * s % 65536) ^^^ (s / 32768 % 2 * 4129)
def bits : Nat → Nat → Nat
  | 0, s => s
  | n + 1, s => bits n (bit s)
def byte (s x : Nat) : Nat := bits 8 (s ^^^ (x * 256))
def go (s : Nat) (l : List Int) : Nat := l.foldl (fun s z => byte s z.toNat) s

theorem bit_lt (s : Nat) : bit s < 65536 := by
  unfold bit
  apply Nat.xor_lt_two_pow (n := 16)
  · omega
  · omega

theorem xor_mod16 (a b : Nat) : (a ^^^ b) % 65536 = (a % 65536) ^^^ (b % 65536) := Nat.xor_mod_two_pow (n := 16)

theorem two_xor (a b : Nat) : 2 * (a ^^^ b) = (2 * a) ^^^ (2 * b) := by
  have h : (a ^^^ b) <<< 1 = a <<< 1 ^^^ b <<< 1 := Nat.shiftLeft_xor_distrib
  simp only [Nat.shiftLeft_eq, Nat.pow_one] at h
  rw [Nat.mul_comm 2 (a ^^^ b), h, Nat.mul_comm a, Nat.mul_comm b]

theorem top_xor (a b : Nat) : (a ^^^ b) / 32768 % 2 = (a / 32768 % 2) ^^^ (b / 32768 % 2) := by
  have h : (a ^^^ b) >>> 15 = a >>> 15 ^^^ b >>> 15 := Nat.shiftRight_xor_distrib
  simp only [Nat.shiftRight_eq_div_pow] at h
  have e : (2:Nat) ^ 15 = 32768 := by decide
  rw [e] at h
  rw [h]
  exact Nat.xor_mod_two_pow (n := 1)

theorem mul_xor (a b : Nat) (ha : a < 2) (hb : b < 2) : (a ^^^ b) * 4129 = (a * 4129) ^^^ (b * 4129) := by
  match a, b with
  | 0, 0 => rfl
  | 0, 1 => rfl
  | 1, 0 => rfl
  | 1, 1 => rfl
  | n + 2, _ => omega
  | _, n + 2 => omega

theorem bit_xor (a b : Nat) : bit (a ^^^ b) = bit a ^^^ bit b := by
  unfold bit
  rw [two_xor, xor_mod16, top_xor, mul_xor _ _ (by omega) (by omega)]
  ac_rfl

theorem bits_xor (n : Nat) : ∀ a b, bits n (a ^^^ b) = bits n a ^^^ bits n b := by
  induction n with
  | zero => intro a b; rfl
  | succ n ih => intro a b; simp only [bits]; rw [bit_xor, ih]

theorem bits_lt (n : Nat) : ∀ s, s < 65536 → bits n s < 65536 := by
  induction n with
  | zero => intro s h; exact h
  | succ n ih => intro s _; exact ih _ (bit_lt s)

theorem bit_zero : bit 0 = 0 := rfl
theorem bits_zero (n : Nat) : bits n 0 = 0 := by
  induction n with
  | zero => rfl
  | succ n ih => exact ih

theorem bit_inj0 (a : Nat) (ha : a < 65536) (h : bit a = 0) : a = 0 := by
  unfold bit at h
  rcases (show a / 32768 % 2 = 0 ∨ a / 32768 % 2 = 1 by omega) with e | e
  · rw [e, Nat.zero_mul, Nat.xor_zero] at h
    omega
  · rw [e, Nat.one_mul] at h
    have h2 : 2 * a % 65536 = 4129 := by
      have h3 := congrArg (fun x => x ^^^ 4129) h
      simp only [Nat.xor_assoc, Nat.xor_self, Nat.xor_zero, Nat.zero_xor] at h3
      exact h3
    omega

theorem xor_eq_zero (a b : Nat) : a ^^^ b = 0 ↔ a = b := by
  constructor
  · intro h
    have := congrArg (fun x => x ^^^ b) h
    simpa [Nat.xor_assoc] using this
  · intro h; subst h; exact Nat.xor_self a

theorem bit_inj {a b : Nat} (ha : a < 65536) (hb : b < 65536) (h : bit a = bit b) : a = b := by
  rw [← xor_eq_zero]
  refine bit_inj0 _ (Nat.xor_lt_two_pow (n := 16) ha hb) ?_
  rw [bit_xor, h, Nat.xor_self]

theorem bits_inj (n : Nat) : ∀ a b, a < 65536 → b < 65536 → bits n a = bits n b → a = b := by
  induction n with
  | zero => intro a b _ _ h; exact h
  | succ n ih => intro a b ha hb h; exact bit_inj ha hb (ih _ _ (bit_lt a) (bit_lt b) h)

theorem bits_add (n : Nat) : ∀ m a, bits (n + m) a = bits m (bits n a) := by
  induction n with
  | zero => intro m a; simp [bits]
  | succ n ih => intro m a; rw [Nat.succ_add]; simp only [bits]; exact ih m _

theorem byte_lt {s x : Nat} (hs : s < 65536) (hx : x < 256) : byte s x < 65536 :=
  bits_lt 8 _ (Nat.xor_lt_two_pow (n := 16) hs (by omega))

def Bytes (l : List Int) : Prop := ∀ z ∈ l, 0 ≤ z ∧ z < 256

theorem go_nil (s : Nat) : go s [] = s := rfl
theorem go_cons (s : Nat) (z : Int) (l : List Int) : go s (z :: l) = go (byte s z.toNat) l := rfl
theorem go_append (s : Nat) (a b : List Int) : go s (a ++ b) = go (go s a) b := by unfold go; rw [List.foldl_append]
theorem go_lt : ∀ (l : List Int) (s : Nat), s < 65536 → Bytes l → go s l < 65536
  | [], _, hs, _ => hs
  | z :: l, s, hs, hl => go_lt l _ (byte_lt hs (by have := hl z (by simp); omega)) (fun y hy => hl y (by simp [hy]))

theorem byte_inj {s t x : Nat} (hs : s < 65536) (ht : t < 65536) (hx : x < 256) (h : byte s x = byte t x) : s = t := by
  have := bits_inj 8 _ _ (Nat.xor_lt_two_pow (n := 16) hs (by omega)) (Nat.xor_lt_two_pow (n := 16) ht (by omega)) h
  have := congrArg (fun y => y ^^^ (x * 256)) this
  simpa [Nat.xor_assoc] using this

theorem go_inj : ∀ (l : List Int) (s t : Nat), s < 65536 → t < 65536 → Bytes l → go s l = go t l → s = t
  | [], _, _, _, _, _, h => h
  | z :: l, s, t, hs, ht, hl, h => by
    have hz : z.toNat < 256 := by have := hl z (by simp); omega
    exact byte_inj hs ht hz (go_inj l _ _ (byte_lt hs hz) (byte_lt ht hz) (fun y hy => hl y (by simp [hy])) h)

/-- eight places up of what lies in the lower byte: no turn. -/
theorem bits8_low (y : Nat) (hy : y < 256) : bits 8 y = y * 256 := by
  have : ∀ n : Nat, ∀ z, z * 2 ^ n < 65536 → bits n z = z * 2 ^ n := by
    intro n
    induction n with
    | zero => intro z _; simp [bits]
    | succ n ih =>
      intro z hz
      have h1 : 1 ≤ 2 ^ n := Nat.one_le_two_pow
      have h2 : z * 2 ≤ z * 2 ^ (n + 1) := by
        rw [Nat.pow_succ]; exact Nat.mul_le_mul_left _ (by omega)
      have e : bit z = 2 * z := by
        unfold bit
        have : z / 32768 % 2 = 0 := by omega
        rw [this, Nat.zero_mul, Nat.xor_zero]; omega
      simp only [bits]; rw [e, ih]
      · rw [Nat.pow_succ]; ac_rfl
      · rw [Nat.pow_succ] at hz; have : 2 * z * 2 ^ n = z * (2 ^ n * 2) := by ac_rfl
        omega
  exact this 8 y (by omega)

theorem byte_byte (s x y : Nat) (hy : y < 256) : byte (byte s x) y = bits 16 (s ^^^ (x * 256 ^^^ y)) := by
  unfold byte
  rw [← bits8_low y hy, ← bits_xor, ← bits_add]
  congr 1
  ac_rfl

theorem pair_inj {x y c d : Nat} (hy : y < 256) (hd : d < 256) (h : x * 256 ^^^ y = c * 256 ^^^ d) : x = c ∧ y = d := by
  have e1 : x * 256 ^^^ y = x * 256 + y := by
    have h3 : x <<< 8 + y = x <<< 8 ||| y := Nat.shiftLeft_add_eq_or_of_lt (by omega) _
    rw [Nat.shiftLeft_eq, show (2:Nat) ^ 8 = 256 from rfl] at h3
    rw [h3]
    apply Nat.eq_of_testBit_eq
    intro i
    rw [Nat.testBit_xor, Nat.testBit_or]
    by_cases hi : i < 8
    · have : (x * 256).testBit i = false := by
        have := @Nat.testBit_mul_two_pow x i 8
        rw [show (256:Nat) = 2 ^ 8 from rfl, this]; simp; omega
      simp [this]
    · have : y.testBit i = false := Nat.testBit_lt_two_pow (Nat.lt_of_lt_of_le hy (by
        have : (2:Nat) ^ 8 ≤ 2 ^ i := Nat.pow_le_pow_right (by omega) (by omega)
        exact this))
      simp [this]
  have e2 : c * 256 ^^^ d = c * 256 + d := by
    have h3 : c <<< 8 + d = c <<< 8 ||| d := Nat.shiftLeft_add_eq_or_of_lt (by omega) _
    rw [Nat.shiftLeft_eq, show (2:Nat) ^ 8 = 256 from rfl] at h3
    rw [h3]
    apply Nat.eq_of_testBit_eq
    intro i
    rw [Nat.testBit_xor, Nat.testBit_or]
    by_cases hi : i < 8
    · have : (c * 256).testBit i = false := by
        have := @Nat.testBit_mul_two_pow c i 8
        rw [show (256:Nat) = 2 ^ 8 from rfl, this]; simp; omega
      simp [this]
    · have : d.testBit i = false := Nat.testBit_lt_two_pow (Nat.lt_of_lt_of_le hd (by
        have : (2:Nat) ^ 8 ≤ 2 ^ i := Nat.pow_le_pow_right (by omega) (by omega)
        exact this))
      simp [this]
  omega

/-- TWO BYTES SIDE BY SIDE CHANGED: the register is another one. -/
theorem two_changed {s x y c d : Nat} (hs : s < 65536) (hx : x < 256) (hy : y < 256) (hc : c < 256) (hd : d < 256)
    (h : byte (byte s x) y = byte (byte s c) d) : x = c ∧ y = d := by
  rw [byte_byte _ _ _ hy, byte_byte _ _ _ hd] at h
  have b1 : x * 256 ^^^ y < 65536 := Nat.xor_lt_two_pow (n := 16) (by omega) (by omega)
  have b2 : c * 256 ^^^ d < 65536 := Nat.xor_lt_two_pow (n := 16) (by omega) (by omega)
  have h2 := bits_inj 16 _ _ (Nat.xor_lt_two_pow (n := 16) hs b1) (Nat.xor_lt_two_pow (n := 16) hs b2) h
  have h3 := congrArg (fun z => s ^^^ z) h2
  simp only [← Nat.xor_assoc, Nat.xor_self, Nat.zero_xor] at h3
  exact pair_inj hy hd h3

theorem bits_succ (n s : Nat) : bits (n + 1) s = bit (bits n s) := by rw [bits_add]; rfl

theorem go_snoc (s : Nat) (l : List Int) (k : Nat) (h : k < l.length) : go s (l.take (k + 1)) = byte (go s (l.take k)) (l.getD k 0).toNat := by
  rw [List.take_succ_eq_append_getElem h, go_append]
  simp [go, List.getD, h]

theorem bytes_at {l : List Int} (hB : Bytes l) (k : Nat) : 0 ≤ l.getD k 0 ∧ l.getD k 0 < 256 := by
  by_cases h : k < l.length
  · have : l.getD k 0 ∈ l := by simp [List.getD, h]
    exact hB _ this
  · simp [List.getD, Nat.le_of_not_lt h]
theorem bytes_take {l : List Int} (hB : Bytes l) (k : Nat) : Bytes (l.take k) := fun z hz => hB z (List.mem_of_mem_take hz)
theorem bytes_append {a b : List Int} (ha : Bytes a) (hb : Bytes b) : Bytes (a ++ b) := fun z hz => by
  rcases List.mem_append.1 hz with h | h
  · exact ha z h
  · exact hb z h
/-! ### The register as a list of bits, the highest first (the document's own form) -/
def reg (s i : Nat) : Bool := s.testBit (15 - i)
/-- one place up, the register's highest bit held against c -/
def put (s : Nat) (c : Bool) : Nat := (2 * s % 65536) ^^^ (if (reg s 0 != c) = true then 4129 else 0)
def flip3 (u : Bool) (R : Nat → Bool) (i : Nat) : Bool := if u = true then (if i = 3 then !(R 3) else if i = 10 then !(R 10) else if i = 15 then !(R 15) else R i) else R i
def up (R : Nat → Bool) (i : Nat) : Bool := if i = 15 then false else R (i + 1)

theorem put_lt (s : Nat) (c : Bool) : put s c < 65536 := by
  unfold put
  apply Nat.xor_lt_two_pow (n := 16)
  · omega
  · split <;> omega

theorem two_testBit (s j : Nat) (hj : j < 16) : (2 * s % 65536).testBit j = (decide (1 ≤ j) && s.testBit (j - 1)) := by
  rw [show (65536 : Nat) = 2 ^ 16 from rfl, Nat.testBit_mod_two_pow]
  rw [show 2 * s = 2 ^ 1 * s from by omega, Nat.testBit_two_pow_mul]
  simp [hj]

theorem reg_put (s : Nat) (c : Bool) (i : Nat) (hi : i < 16) : reg (put s c) i = flip3 (reg s 0 != c) (up (reg s)) i := by
  unfold put
  generalize (reg s 0 != c) = u
  unfold reg flip3 up
  rw [Nat.testBit_xor, two_testBit _ _ (by omega)]
  cases u with
  | false =>
    simp only [Bool.false_eq_true, if_false, Nat.zero_testBit, Bool.xor_false]
    by_cases h : i = 15
    · subst h; simp
    · rw [if_neg h, decide_eq_true (by omega : 1 ≤ 15 - i), Bool.true_and]
      rw [show 15 - i - 1 = 15 - (i + 1) from by omega]
  | true =>
    simp only [if_true]
    match i, hi with
    | 0, _ => simp [show Nat.testBit 4129 15 = false from by decide]
    | 1, _ => simp [show Nat.testBit 4129 14 = false from by decide]
    | 2, _ => simp [show Nat.testBit 4129 13 = false from by decide]
    | 3, _ => simp [show Nat.testBit 4129 12 = true from by decide]
    | 4, _ => simp [show Nat.testBit 4129 11 = false from by decide]
    | 5, _ => simp [show Nat.testBit 4129 10 = false from by decide]
    | 6, _ => simp [show Nat.testBit 4129 9 = false from by decide]
    | 7, _ => simp [show Nat.testBit 4129 8 = false from by decide]
    | 8, _ => simp [show Nat.testBit 4129 7 = false from by decide]
    | 9, _ => simp [show Nat.testBit 4129 6 = false from by decide]
    | 10, _ => simp [show Nat.testBit 4129 5 = true from by decide]
    | 11, _ => simp [show Nat.testBit 4129 4 = false from by decide]
    | 12, _ => simp [show Nat.testBit 4129 3 = false from by decide]
    | 13, _ => simp [show Nat.testBit 4129 2 = false from by decide]
    | 14, _ => simp [show Nat.testBit 4129 1 = false from by decide]
    | 15, _ => simp [show Nat.testBit 4129 0 = true from by decide]
    | n + 16, h => omega

/-- the bits of a byte from place k - 1 down to 0 are put -/
def puts (x : Nat) : Nat → Nat → Nat
  | 0, s => s
  | k + 1, s => puts x k (put s (decide (x / 2 ^ k % 2 = 1)))

theorem top_reg (s : Nat) : reg s 0 = decide (s / 32768 % 2 = 1) := by
  unfold reg; rw [Nat.testBit_eq_decide_div_mod_eq]

theorem bit_put (s y : Nat) : bit (s ^^^ y) = put s (decide (y / 32768 % 2 = 1)) ^^^ (2 * y % 65536) := by
  unfold bit put
  rw [two_xor, xor_mod16, top_xor, top_reg]
  have e : ((s / 32768 % 2) ^^^ (y / 32768 % 2)) * 4129 = (if (decide (s / 32768 % 2 = 1) != decide (y / 32768 % 2 = 1)) = true then 4129 else 0) := by
    rcases (show s / 32768 % 2 = 0 ∨ s / 32768 % 2 = 1 by omega) with a | a <;> rcases (show y / 32768 % 2 = 0 ∨ y / 32768 % 2 = 1 by omega) with b | b <;> rw [a, b] <;> rfl
  rw [e]
  ac_rfl

theorem bits_puts (x : Nat) : ∀ (k s : Nat), k ≤ 8 → bits k (s ^^^ (x * 2 ^ (16 - k) % 65536)) = puts x k s := by
  intro k
  induction k with
  | zero => intro s _; simp [bits, puts]
  | succ k ih =>
    intro s hk
    have p16 : (65536 : Nat) = 2 ^ (16 - (k + 1)) * 2 ^ (k + 1) := by
      rw [← Nat.pow_add, show 16 - (k + 1) + (k + 1) = 16 from by omega]
    have p15 : (32768 : Nat) = 2 ^ (16 - (k + 1)) * 2 ^ k := by
      rw [← Nat.pow_add, show 16 - (k + 1) + k = 15 from by omega]
    simp only [bits, puts]
    rw [bit_put]
    have e1 : (x * 2 ^ (16 - (k + 1)) % 65536) / 32768 % 2 = x / 2 ^ k % 2 := by
      have h1 : x * 2 ^ (16 - (k + 1)) % 65536 = (x % 2 ^ (k + 1)) * 2 ^ (16 - (k + 1)) := by
        rw [p16, Nat.mul_comm x, Nat.mul_mod_mul_left, Nat.mul_comm]
      rw [h1, p15, Nat.mul_comm, Nat.mul_div_mul_left _ _ (Nat.two_pow_pos _), Nat.pow_succ, Nat.mod_mul_right_div_self, Nat.mod_mod]
    have e2 : 2 * (x * 2 ^ (16 - (k + 1)) % 65536) % 65536 = x * 2 ^ (16 - k) % 65536 := by
      have : 2 * (x * 2 ^ (16 - (k + 1))) = x * 2 ^ (16 - k) := by
        rw [show 16 - k = (16 - (k + 1)) + 1 from by omega, Nat.pow_succ]; ac_rfl
      rw [← this]; omega
    rw [e1, e2, ih _ (by omega)]

/-- THE DOCUMENT's BYTE IS THE PROGRAM's. -/
theorem byte_puts (s x : Nat) (hx : x < 256) : byte s x = puts x 8 s := by
  rw [← bits_puts x 8 s (by omega), byte, show (2:Nat) ^ (16 - 8) = 256 from rfl, Nat.mod_eq_of_lt (by omega : x * 256 < 65536)]

theorem puts_lt (x : Nat) : ∀ (k s : Nat), s < 65536 → puts x k s < 65536
  | 0, _, h => h
  | k + 1, s, _ => puts_lt x k _ (put_lt s _)

/-- the number of the first k bits -/
theorem num_succ (s k : Nat) (hk : k < 16) : s / 2 ^ (16 - (k + 1)) = s / 2 ^ (16 - k) * 2 + (if reg s k = true then 1 else 0) := by
  have e : s / 2 ^ (16 - k) = s / 2 ^ (16 - (k + 1)) / 2 := by
    rw [Nat.div_div_eq_div_mul, ← Nat.pow_succ, show (16 - (k + 1)).succ = 16 - k from by omega]
  rw [e]
  unfold reg
  rw [Nat.testBit_eq_decide_div_mod_eq, show 16 - (k + 1) = 15 - k from by omega]
  generalize s / 2 ^ (15 - k) = q
  by_cases h : q % 2 = 1 <;> simp [h] <;> omega

theorem take_lt {s : Nat} {l : List Int} (hs : s < 65536) (hB : Bytes l) (k : Nat) : go s (l.take k) < 65536 := go_lt _ _ hs (bytes_take hB k)
end Crc
