/- Plain facts on the float nearest to a whole number, as the reference makes it: no program in sight. -/
import Derived.Test.YthhlgdjpopdboaaFloatWhole
namespace FloatPlain
open Ieee

/-- V of a rung in a binade whose place is at or above the whole numbers -/
theorem V_at (s K k : Nat) (h1 : 2 ^ 52 ≤ K) (h2 : K ≤ 2 ^ 53) (_hk : k = 1074) : V ((s + k) * 2 ^ 52 + K) = K * 2 ^ s * pw k := by
  unfold pw
  rw [Nat.mul_assoc, ← Nat.pow_add]
  rcases Nat.lt_or_ge K (2 ^ 53) with h | h
  · exact V_of_norm h1 h
  · have : K = 2 ^ 53 := by omega
    rw [this, V_top]

/-- what the reference's two loops leave of M: 'm' is M times 2^j, 's' more places -/
structure Left (M j s : Nat) : Prop where
  pos : M ≠ 0
  jle : j ≤ 52
  low : j = 0 ∨ M * 2 ^ j < 2 ^ 53
  lo : 2 ^ 52 ≤ M * 2 ^ j
  hi : M * 2 ^ j / 2 ^ s < 2 ^ 53
  up : s = 0 ∨ 2 ^ 53 ≤ M * 2 ^ j / 2 ^ (s - 1)

theorem Left.s0 {M j s : Nat} (h : Left M j s) (hj : j ≠ 0) : s = 0 := by
  rcases h.low with h1 | h1
  · exact absurd h1 hj
  rcases h.up with h2 | h2
  · exact h2
  · have := Nat.div_le_self (M * 2 ^ j) (2 ^ (s - 1)); omega
theorem Left.norm {M j s : Nat} (h : Left M j s) : 2 ^ 52 ≤ M * 2 ^ j / 2 ^ s := by
  rcases h.up with h2 | h2
  · subst h2; simpa using h.lo
  · by_cases hs : s = 0
    · subst hs; simpa using h.lo
    · have e : 2 ^ s = 2 ^ (s - 1) * 2 := by rw [← Nat.pow_succ]; congr 1; omega
      rw [e, ← Nat.div_div_eq_div_mul]; omega
theorem Left.log {M j s : Nat} (h : Left M j s) : M.log2 + j = 52 + s := by
  have h1 := h.norm
  have h2 := h.hi
  have hp := two_pow_pos s
  rw [Nat.le_div_iff_mul_le hp, ← Nat.pow_add] at h1
  rw [Nat.div_lt_iff_lt_mul hp, ← Nat.pow_add] at h2
  rw [← log2_shift _ _ h.pos]
  have h0 : M * 2 ^ j ≠ 0 := by have := two_pow_pos (52 + s); omega
  exact (Nat.log2_eq_iff h0).2 ⟨h1, by rw [show 52 + s + 1 = 53 + s from by omega]; exact h2⟩
theorem Left.E_bd {M j s : Nat} (h : Left M j s) : 2 ^ 52 ≤ E (M * 2 ^ j) s ∧ E (M * 2 ^ j) s ≤ 2 ^ 53 := by
  have := h.norm; have := h.hi; have := E_le (M * 2 ^ j) s; have := le_E (M * 2 ^ j) s
  omega
theorem Left.whole {M j s : Nat} (h : Left M j s) : wholeR M = (52 - j + s + 1022) * 2 ^ 52 + E (M * 2 ^ j) s := by
  have hl := h.log
  have hj := h.jle
  have e : M.log2 = 52 - j + s := by omega
  unfold wholeR
  rw [if_neg h.pos, e]
  refine congrArg (fun t => (52 - j + s + 1022) * 2 ^ 52 + t) ?_
  by_cases h0 : j = 0
  · subst h0
    simp only [Nat.pow_zero, Nat.mul_one]
    by_cases hs : s = 0
    · subst hs; simp [E_zero]
    · rw [if_neg (by omega)]; congr 1
      omega
  · have := h.s0 h0
    subst this
    rw [if_pos (by omega), E_zero]; congr 2
    omega
/-- its value -/
theorem Left.V_eq {M j s : Nat} (h : Left M j s) : V (wholeR M) = (if s = 0 then M else E M s * 2 ^ s) * P := by
  by_cases hs : s = 0
  · rw [if_pos hs]
    by_cases h0 : j = 0
    · have h2 := h.hi
      rw [h0, hs] at h2
      exact V_wholeR_exact (by simpa using h2)
    · have := h.low
      have hle : M * 1 ≤ M * 2 ^ j := Nat.mul_le_mul_left _ (two_pow_pos j)
      exact V_wholeR_exact (by omega)
  · have h0 : j = 0 := by
      by_cases h0 : j = 0
      · exact h0
      · exact absurd (h.s0 h0) hs
    subst h0
    have hb := h.E_bd
    have hw := h.whole
    simp only [Nat.pow_zero, Nat.mul_one] at hb hw
    rw [if_neg hs, hw, show 52 - 0 + s + 1022 = s + 1074 from by omega]
    exact V_at s _ 1074 hb.1 hb.2 rfl
theorem Left.T_eq {M j s : Nat} (h : Left M j s) : V (wholeR M) % P = 0 ∧ V (wholeR M) / P = (if s = 0 then M else E M s * 2 ^ s) := by
  rw [h.V_eq]
  exact ⟨Nat.mul_mod_left _ _, Nat.mul_div_cancel _ P_pos⟩
theorem Left.exact {M j s : Nat} (h : Left M j s) : (if s = 0 then M else E M s * 2 ^ s) = M ↔ M * 2 ^ j % 2 ^ s = 0 := by
  by_cases hs : s = 0
  · subst hs; simp [Nat.mod_one]
  · have h0 : j = 0 := by
      by_cases h0 : j = 0
      · exact h0
      · exact absurd (h.s0 h0) hs
    subst h0
    rw [if_neg hs, Nat.pow_zero, Nat.mul_one]
    constructor
    · intro e; rw [← e]; exact Nat.mul_mod_left _ _
    · intro e
      have hd := Nat.div_add_mod M (2 ^ s)
      rw [e, Nat.add_zero, Nat.mul_comm] at hd
      rw [← hd, E_exact]

/-- the rounding, as the reference makes it -/
theorem E_ref (m s : Nat) (hs : s ≠ 0) :
    E m s = if 2 ^ (s - 1) < m % 2 ^ s ∨ (m % 2 ^ s = 2 ^ (s - 1) ∧ 0 < m % 2 ^ s ∧ m / 2 ^ s % 2 = 1) then m / 2 ^ s + 1 else m / 2 ^ s := by
  have e : 2 ^ s = 2 * 2 ^ (s - 1) := by rw [Nat.mul_comm, ← Nat.pow_succ]; congr 1; omega
  have hp := two_pow_pos (s - 1)
  unfold E
  have c1 : (2 ^ s < 2 * (m % 2 ^ s)) ↔ 2 ^ (s - 1) < m % 2 ^ s := by omega
  have c2 : (2 ^ s = 2 * (m % 2 ^ s) ∧ m / 2 ^ s % 2 = 1) ↔ (m % 2 ^ s = 2 ^ (s - 1) ∧ 0 < m % 2 ^ s ∧ m / 2 ^ s % 2 = 1) := by
    constructor
    · rintro ⟨a, b⟩; exact ⟨by omega, by omega, b⟩
    · rintro ⟨a, _, b⟩; exact ⟨by omega, b⟩
  simp only [c1, c2]
  split <;> rfl

/-- whether the program's Of tells that it is exact -/
theorem ofW_whole {n : Int} {j s : Nat} (hn : -9223372036854775808 ≤ n) (hn' : n < 9223372036854775808) (h : Left n.natAbs j s) :
    (wholeB (ofW n) && decide (tInt (ofW n) = n)) = decide (n.natAbs * 2 ^ j % 2 ^ s = 0) := by
  have hr := rung_ofW (n := n) (by omega)
  have hs := sgn_ofW (n := n) (by omega)
  have hT := h.T_eq
  have ht : tInt (ofW n) = if n < 0 then -((if s = 0 then n.natAbs else E n.natAbs s * 2 ^ s : Nat) : Int) else ((if s = 0 then n.natAbs else E n.natAbs s * 2 ^ s : Nat) : Int) := by
    unfold tInt T; rw [hr, hs, hT.2]; simp
  have hlt := wholeR_le (M := n.natAbs) (by omega)
  have hex := h.exact
  unfold wholeB
  rw [hr, hT.1]
  have e1 : decide (wholeR n.natAbs < inf) = true := by simpa using hlt
  rw [e1]
  generalize (if s = 0 then n.natAbs else E n.natAbs s * 2 ^ s) = t at *
  by_cases hm : n.natAbs * 2 ^ j % 2 ^ s = 0
  · have : t = n.natAbs := hex.2 hm
    have e : tInt (ofW n) = n := by rw [ht, this]; split <;> omega
    rw [e]; simp [hm]; omega
  · have : t ≠ n.natAbs := fun e => hm (hex.1 e)
    have e : ¬ tInt (ofW n) = n := by rw [ht]; split <;> omega
    simp [hm, e]
end FloatPlain
