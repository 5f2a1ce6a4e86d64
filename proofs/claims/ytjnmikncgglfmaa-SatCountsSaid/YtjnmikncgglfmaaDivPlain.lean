/- Plain facts on dividing a double word by a word, a half at a time: no program in sight. -/
namespace DivPlain

/-- a divisor of two halves, the high one at least half of a half; the dividend's high word u below it, and a next half n -/
structure Dig (h l u n : Nat) : Prop where
  h0 : 2147483648 ≤ h
  h1 : h < 4294967296
  l1 : l < 4294967296
  n1 : n < 4294967296
  u1 : u < h * 4294967296 + l

/-- a guess of the digit, not below it -/
structure Guess (h l u n q r : Nat) : Prop where
  eq : r + q * h = u
  ge : (u * 4294967296 + n) / (h * 4294967296 + l) ≤ q
  le : q ≤ 4294967297
  r1 : r < 4294967296

theorem Dig.y0 {h l u n : Nat} (d : Dig h l u n) : 0 < h * 4294967296 + l := by have := d.h0; omega
theorem start {h l u n : Nat} (d : Dig h l u n) : Guess h l u n (u / h) (u % h) := by
  have h0 := d.h0; have h1 := d.h1; have l1 := d.l1; have n1 := d.n1; have u1 := d.u1
  have hp : 0 < h := by omega
  refine ⟨by rw [Nat.mul_comm]; exact Nat.mod_add_div u h, ?_, ?_, Nat.lt_of_lt_of_le (Nat.mod_lt _ hp) (by omega)⟩
  · rw [Nat.div_le_iff_le_mul_add_pred d.y0]
    -- u * B + n ≤ (h * B + l) * (u / h) + ..
    have e := Nat.div_add_mod u h
    have m := Nat.mod_lt u hp
    generalize u / h = q at *
    generalize u % h = r at *
    have e1 : (h * 4294967296 + l) * q = h * q * 4294967296 + l * q := by rw [Nat.add_mul, Nat.mul_right_comm]
    rw [e1]
    omega
  · have : u / h < 4294967298 := by
      rw [Nat.div_lt_iff_lt_mul hp]
      omega
    omega
/-- the test says yes: the guess is above the digit -/
theorem above {h l u n q r : Nat} (d : Dig h l u n) (g : Guess h l u n q r) (hc : 4294967296 ≤ q ∨ 4294967296 * r + n < q * l) :
    1 ≤ q ∧ (u * 4294967296 + n) / (h * 4294967296 + l) ≤ q - 1 ∧ q - 1 ≤ 4294967296 := by
  have hlt : (u * 4294967296 + n) / (h * 4294967296 + l) < q := by
    rw [Nat.div_lt_iff_lt_mul d.y0]
    have e1 : q * (h * 4294967296 + l) = q * h * 4294967296 + q * l := by rw [Nat.mul_add, Nat.mul_assoc]
    have := g.eq; have := d.n1; have := d.u1
    rw [e1]
    rcases hc with hc | hc
    · have h2 : 4294967296 * (h * 4294967296 + l) ≤ q * (h * 4294967296 + l) := Nat.mul_le_mul_right _ hc
      rw [e1] at h2
      omega
    · omega
  have hle := g.le
  clear hc
  generalize (u * 4294967296 + n) / (h * 4294967296 + l) = a at *
  omega
/-- the test says no: the guess is the digit -/
theorem found {h l u n q r : Nat} (d : Dig h l u n) (g : Guess h l u n q r) (hc : q * l ≤ 4294967296 * r + n) :
    q = (u * 4294967296 + n) / (h * 4294967296 + l) := by
  have : q ≤ (u * 4294967296 + n) / (h * 4294967296 + l) := by
    rw [Nat.le_div_iff_mul_le d.y0]
    have e1 : q * (h * 4294967296 + l) = q * h * 4294967296 + q * l := by rw [Nat.mul_add, Nat.mul_assoc]
    have := g.eq
    rw [e1]; omega
  have := g.ge
  omega
/-- one less, and on -/
theorem next {h l u n q r : Nat} (d : Dig h l u n) (g : Guess h l u n q r) (hc : 4294967296 ≤ q ∨ 4294967296 * r + n < q * l) (hr : r + h < 4294967296) : Guess h l u n (q - 1) (r + h) := by
  obtain ⟨h1, h2, h3⟩ := above d g hc
  refine ⟨?_, h2, by omega, hr⟩
  have := g.eq
  obtain ⟨p, rfl⟩ : ∃ p, q = p + 1 := ⟨q - 1, by omega⟩
  rw [Nat.add_sub_cancel]
  rw [Nat.add_mul, Nat.one_mul] at this
  omega
/-- one less, and out -/
theorem out {h l u n q r : Nat} (d : Dig h l u n) (g : Guess h l u n q r) (hc : 4294967296 ≤ q ∨ 4294967296 * r + n < q * l) (hr : 4294967296 ≤ r + h) : q - 1 = (u * 4294967296 + n) / (h * 4294967296 + l) := by
  obtain ⟨h1, h2, h3⟩ := above d g hc
  have hge : q - 1 ≤ (u * 4294967296 + n) / (h * 4294967296 + l) := by
    rw [Nat.le_div_iff_mul_le d.y0]
    have e1 : (q - 1) * (h * 4294967296 + l) = (q - 1) * h * 4294967296 + (q - 1) * l := by rw [Nat.mul_add, Nat.mul_assoc]
    have e := g.eq
    obtain ⟨p, rfl⟩ : ∃ p, q = p + 1 := ⟨q - 1, by omega⟩
    rw [Nat.add_sub_cancel] at *
    rw [Nat.add_mul, Nat.one_mul] at e
    have e2 : p * l ≤ 4294967296 * 4294967295 := Nat.mul_le_mul h3 (by have := d.l1; omega)
    rw [e1]; omega
  omega

/-- the digit is below 2^32 -/
theorem digit_lt {h l u n : Nat} (d : Dig h l u n) : (u * 4294967296 + n) / (h * 4294967296 + l) < 4294967296 := by
  rw [Nat.div_lt_iff_lt_mul d.y0]
  have hu := d.u1; have := d.n1
  have h2 : (u + 1) * 4294967296 ≤ (h * 4294967296 + l) * 4294967296 := Nat.mul_le_mul_right _ hu
  omega

/-- the two digits together -/
theorem digits_core {y u a b q r : Nat} (hy : 0 < y) (e : y * q + r = u * 4294967296 + a) : q * 4294967296 + (r * 4294967296 + b) / y = (u * 18446744073709551616 + a * 4294967296 + b) / y := by
  have e2 : y * (q * 4294967296) = y * q * 4294967296 := (Nat.mul_assoc _ _ _).symm
  have : u * 18446744073709551616 + a * 4294967296 + b = r * 4294967296 + b + y * (q * 4294967296) := by
    rw [e2]
    generalize y * q = z at *
    omega
  rw [this, Nat.add_mul_div_left _ _ hy, Nat.add_comm]
theorem digits {y u a b : Nat} (hy : 0 < y) : ((u * 4294967296 + a) / y) * 4294967296 + ((u * 4294967296 + a) % y * 4294967296 + b) / y = (u * 18446744073709551616 + a * 4294967296 + b) / y :=
  digits_core hy (Nat.div_add_mod _ _)

/-- scaled alike -/
theorem scaled (p y s : Nat) : (p * 2 ^ s) / (y * 2 ^ s) = p / y := Nat.mul_div_mul_right _ _ (Nat.two_pow_pos s)
end DivPlain
