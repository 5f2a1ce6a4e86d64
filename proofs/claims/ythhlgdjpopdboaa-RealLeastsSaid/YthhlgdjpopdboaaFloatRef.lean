/- Plain facts on the whole number that a float is, as the reference finds it: no program in sight. -/
import Derived.Test.YthhlgdjpopdboaaFloatSum
namespace FloatPlain
open Ieee

theorem mid_k (m L s k : Nat) (hk : L + s = k) : (m * 2 ^ L) % pw k = 2 ^ L * (m % 2 ^ s) ∧ (m * 2 ^ L) / pw k = m / 2 ^ s := by
  unfold pw
  rw [← hk, Nat.pow_add, Nat.mul_comm m]
  exact ⟨Nat.mul_mod_mul_left _ _ _, Nat.mul_div_mul_left _ _ (two_pow_pos L)⟩

/-- a normal word's parts -/
structure Parts (a E m : Nat) : Prop where
  e0 : 1 ≤ E
  e1 : E ≤ 2046
  m0 : 2 ^ 52 ≤ m
  m1 : m < 2 ^ 53
  r : rung a = (E - 1) * 2 ^ 52 + m
theorem Parts.val {a E m : Nat} (h : Parts a E m) : V (rung a) = m * 2 ^ (E - 1) := by rw [h.r]; exact V_of_norm h.m0 h.m1
theorem Parts.fin {a E m : Nat} (h : Parts a E m) : rung a < inf := by
  have := h.e1; have := h.m1; rw [h.r]; unfold inf; omega
/-- with places behind the point -/
theorem Parts.mid {a E m s : Nat} (h : Parts a E m) (hs : E + s = 1075) : V (rung a) % P = 2 ^ (E - 1) * (m % 2 ^ s) ∧ T a = m / 2 ^ s := by
  have e0 := h.e0
  have := mid_k m (E - 1) s 1074 (by omega)
  unfold T
  rw [h.val]; exact this
theorem Parts.mid_zero {a E m s : Nat} (h : Parts a E m) (hs : E + s = 1075) : V (rung a) % P = 0 ↔ m % 2 ^ s = 0 := by
  rw [(h.mid hs).1]
  have := two_pow_pos (E - 1)
  constructor
  · intro h
    rcases Nat.mul_eq_zero.1 h with h | h
    · omega
    · exact h
  · intro h; rw [h, Nat.mul_zero]
theorem up_k (m L s k : Nat) (hk : L = k + s) : (m * 2 ^ L) % pw k = 0 ∧ (m * 2 ^ L) / pw k = m * 2 ^ s := by
  unfold pw
  have hp := two_pow_pos k
  have e : m * 2 ^ L = m * 2 ^ s * 2 ^ k := by rw [hk, Nat.add_comm, Nat.pow_add, Nat.mul_assoc]
  rw [e]
  exact ⟨Nat.mul_mod_left _ _, Nat.mul_div_cancel _ hp⟩
theorem Parts.up {a E m s : Nat} (h : Parts a E m) (hs : E = 1075 + s) : V (rung a) % P = 0 ∧ T a = m * 2 ^ s := by
  have := up_k m (E - 1) s 1074 (by omega)
  unfold T
  rw [h.val]; exact this
theorem low_k (m L k : Nat) (h : L + 53 ≤ k) (h0 : 0 < m) (h1 : m < 2 ^ 53) : (m * 2 ^ L) % pw k ≠ 0 := by
  unfold pw
  have h2 : m * 2 ^ L < 2 ^ k := by
    have : m * 2 ^ L < 2 ^ 53 * 2 ^ L := (Nat.mul_lt_mul_right (two_pow_pos L)).2 h1
    rw [← Nat.pow_add] at this
    exact Nat.lt_of_lt_of_le this (Nat.pow_le_pow_right (by omega) (by omega))
  rw [Nat.mod_eq_of_lt h2]
  have := Nat.mul_pos h0 (two_pow_pos L)
  omega
theorem sub_k (r k : Nat) (hk : 53 ≤ k) (h0 : 0 < r) (h1 : r < 2 ^ 52) : r % pw k ≠ 0 := by
  have := low_k r 0 k (by omega) h0 (by omega)
  rwa [Nat.pow_zero, Nat.mul_one] at this
theorem wholeB_no {a : Nat} (h : V (rung a) % P ≠ 0) : wholeB a = false := by
  unfold wholeB; simp [h]
theorem wholeB_T {a : Nat} (hf : rung a < inf) (h0 : V (rung a) % P = 0) : wholeB a = if sgn a then decide (T a ≤ 9223372036854775808) else decide (T a < 9223372036854775808) := by
  unfold wholeB tInt
  rw [decide_eq_true hf, decide_eq_true h0]
  cases sgn a
  · rw [Bool.eq_iff_iff]; simp; omega
  · rw [Bool.eq_iff_iff]; simp; omega
theorem Parts.low {a E m : Nat} (h : Parts a E m) (hs : E < 1023) : wholeB a = false := by
  have e0 := h.e0
  exact wholeB_no (by rw [h.val]; exact low_k m (E - 1) 1074 (by omega) (by have := h.m0; omega) h.m1)
theorem Parts.high {a E m : Nat} (h : Parts a E m) (hs : 1086 < E) : wholeB a = false := by
  obtain ⟨h0, h1⟩ := h.up (s := E - 1075) (by omega)
  rw [wholeB_T h.fin h0, h1]
  have h2 : 2 ^ 52 * 2 ^ 12 ≤ m * 2 ^ (E - 1075) := Nat.mul_le_mul h.m0 (Nat.pow_le_pow_right (by omega) (by omega))
  generalize m * 2 ^ (E - 1075) = X at *
  split
  · exact decide_eq_false (by omega)
  · exact decide_eq_false (by omega)
theorem wholeB_sub {a : Nat} (h0 : 0 < rung a) (h1 : rung a < 2 ^ 52) : wholeB a = false := by
  refine wholeB_no ?_
  rw [V_of_lt (by omega)]
  exact sub_k _ 1074 (by omega) h0 h1
theorem whole_zero {a : Nat} (h : rung a = 0) : wholeB a = true ∧ tInt a = 0 := by
  have e : T a = 0 := by unfold T; rw [h, V_zero]; simp
  have f : tInt a = 0 := by unfold tInt; rw [e]; simp
  refine ⟨?_, f⟩
  unfold wholeB
  rw [f, h, V_zero]
  simp [inf]
theorem whole_inf {a : Nat} (h : ¬ rung a < inf) : wholeB a = false := by unfold wholeB; simp [h]
end FloatPlain
