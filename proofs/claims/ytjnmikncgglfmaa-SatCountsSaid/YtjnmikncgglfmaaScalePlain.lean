/- Plain facts on a product that is made bit by bit, and divided as it is made: no program in sight. -/
import Derived.Test.YtjnmikncgglfmaaSatPlain
namespace SatPlain

/-- what is known where j bits are left -/
structure SR (x c y q r j : Nat) : Prop where
  eq : q * c + r = x * (y / 2 ^ j)
  lt : r < c
  le : q ≤ 4611686018427387904

theorem half_of (y m : Nat) : y / 2 ^ m = 2 * (y / 2 ^ (m + 1)) + y / 2 ^ m % 2 := by
  rw [Nat.pow_succ, ← Nat.div_div_eq_div_mul]; omega

theorem SR.start {x c y : Nat} (hc : 1 ≤ c) (hy : y < 2 ^ 64) : SR x c y 0 0 64 := by
  refine ⟨?_, by omega, by omega⟩
  rw [Nat.div_eq_of_lt hy]; simp

/-- the double, without a carry and with one -/
theorem SR.two0 {x c y q r m : Nat} (h : SR x c y q r (m + 1)) : 2 * q * c + 2 * r = x * (2 * (y / 2 ^ (m + 1))) := by
  have := h.eq
  rw [Nat.mul_assoc, ← Nat.mul_add, this, Nat.mul_left_comm]
theorem SR.two1 {x c y q r m : Nat} (h : SR x c y q r (m + 1)) (hr : c ≤ 2 * r) : (2 * q + 1) * c + (2 * r - c) = x * (2 * (y / 2 ^ (m + 1))) := by
  have := h.two0
  rw [Nat.add_mul, Nat.one_mul, ← this]; omega
/-- too much already -/
theorem SR.over {x c y q r z : Nat} (hc : 1 ≤ c) (h : q * c + r = x * z) (hz : z ≤ y) (hq : 4611686018427387904 < q) : 4611686018427387904 < x * y / c := by
  refine Nat.lt_of_lt_of_le hq ?_
  rw [Nat.le_div_iff_mul_le (by omega)]
  have : x * z ≤ x * y := Nat.mul_le_mul_left _ hz
  omega
theorem SR.z2 {y m : Nat} : 2 * (y / 2 ^ (m + 1)) ≤ y := by
  have := half_of y m
  have := Nat.div_le_self y (2 ^ m)
  omega
theorem SR.z1 {y m : Nat} : y / 2 ^ m ≤ y := Nat.div_le_self y (2 ^ m)

/-- the next bit is 0 -/
theorem SR.bit0 {x c y q r m : Nat} (h : q * c + r = x * (2 * (y / 2 ^ (m + 1)))) (hb : y / 2 ^ m % 2 = 0) : q * c + r = x * (y / 2 ^ m) := by
  have := half_of y m
  rw [hb] at this
  rw [this]; exact h
/-- the next bit is 1 -/
theorem SR.bit1 {x c y q r m : Nat} (h : q * c + r = x * (2 * (y / 2 ^ (m + 1)))) (hb : y / 2 ^ m % 2 = 1) : (q + x / c) * c + (r + x % c) = x * (y / 2 ^ m) := by
  have h2 := half_of y m
  rw [hb] at h2
  rw [h2, Nat.mul_add, Nat.mul_one, ← h, Nat.add_mul]
  have := Nat.div_add_mod x c
  rw [Nat.mul_comm] at this
  omega
theorem SR.bit1c {x c y q r m : Nat} (h : q * c + r = x * (2 * (y / 2 ^ (m + 1)))) (hb : y / 2 ^ m % 2 = 1) (hr : c ≤ r + x % c) : (q + x / c + 1) * c + (r + x % c - c) = x * (y / 2 ^ m) := by
  rw [← SR.bit1 h hb, Nat.add_mul (q + x / c) 1 c, Nat.one_mul]; omega

theorem SR.fin {x c y q r : Nat} (h : SR x c y q r 0) : x * y / c = q := by
  have e := h.eq
  rw [Nat.pow_zero, Nat.div_one] at e
  rw [← e]
  have h1 := h.lt
  rw [Nat.mul_comm, Nat.mul_add_div (by omega), Nat.div_eq_of_lt h1, Nat.add_zero]
end SatPlain
