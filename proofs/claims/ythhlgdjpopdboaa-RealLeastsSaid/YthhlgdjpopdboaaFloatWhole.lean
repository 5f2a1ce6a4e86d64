/- Plain facts on the whole number that a float is: no program in sight. -/
import Derived.Test.YthhlgdjpopdboaaFloatPlain
namespace FloatPlain
open Ieee

/-- the number that a word's float is, cut -/
def T (w : Nat) : Nat := V (rung w) / P
def tInt (w : Nat) : Int := if sgn w then -(T w : Int) else (T w : Int)
def wholeB (w : Nat) : Bool := decide (rung w < inf) && decide (V (rung w) % P = 0) && decide (-9223372036854775808 ≤ tInt w) && decide (tInt w < 9223372036854775808)

theorem cut_zero (neg : Bool) (n drop : Nat) : Toward.zero.cut neg n drop = n / 2 ^ drop := by
  unfold Toward.cut
  simp only [Nat.one_shiftLeft, Bool.toNat_false, Nat.add_zero]
  rcases Nat.le_total drop (n.log2 + 2) with h | h
  · rw [Nat.min_eq_left h]
  · rw [Nat.min_eq_right h]
    have h1 : n < 2 ^ (n.log2 + 2) := Nat.lt_of_lt_of_le Nat.lt_log2_self (Nat.pow_le_pow_right (by omega) (by omega))
    have h2 : n < 2 ^ drop := Nat.lt_of_lt_of_le h1 (Nat.pow_le_pow_right (by omega) h)
    rw [Nat.div_eq_of_lt h1, Nat.div_eq_of_lt h2]

theorem pow_split {a b : Nat} (h : b ≤ a) : 2 ^ a = 2 ^ (a - b) * 2 ^ b := by rw [← Nat.pow_add]; congr 1; omega

/-- cutting a datum is dividing its value -/
theorem cut_V_k (m u k : Nat) (hk : k = 1074) : (m * 2 ^ (-1074 + (u : Int)).toNat) / 2 ^ (-(-1074 + (u : Int))).toNat = m * 2 ^ u / pw k := by
  unfold pw
  rcases Nat.le_total k u with h | h
  · rw [show (-1074 + (u : Int)).toNat = u - k from by omega, show (-(-1074 + (u : Int))).toNat = 0 from by omega, Nat.pow_zero, Nat.div_one,
      pow_split h, ← Nat.mul_assoc, Nat.mul_div_cancel _ (two_pow_pos k)]
  · rw [show (-1074 + (u : Int)).toNat = 0 from by omega, show (-(-1074 + (u : Int))).toNat = k - u from by omega, Nat.pow_zero, Nat.mul_one]
    rw [pow_split h, Nat.mul_div_mul_right _ _ (two_pow_pos u)]
theorem cut_V (m u : Nat) : (m * 2 ^ (-1074 + (u : Int)).toNat) / 2 ^ (-(-1074 + (u : Int))).toNat = m * 2 ^ u / P := cut_V_k m u 1074 rfl

theorem integral_num {w : Nat} (h : rung w < inf) : (double.read w).integral .zero = .number (sgn w) (T w) 0 := by
  rw [read_num h]
  simp only [Datum.integral, Nat.shiftLeft_eq, cut_zero]
  rw [cut_V]; rfl

theorem toInt_num {w : Nat} (h : rung w < inf) : (double.read w).toInt .zero = some (tInt w) := by
  unfold Datum.toInt
  rw [integral_num h]
  simp [signed_eq, tInt]

/-- a cut number has few digits -/
theorem T_exact_k (w k : Nat) (hk : V (rung w) / pw k = T w) : ∃ q j, q < 2 ^ 53 ∧ T w = q * pw j := by
  have hm := mag_lt (rung w)
  unfold V at hk
  rcases Nat.le_total k (up (rung w)) with h | h
  · refine ⟨mag (rung w), up (rung w) - k, hm, ?_⟩
    rw [← hk]
    unfold pw
    rw [pow_split h, ← Nat.mul_assoc, Nat.mul_div_cancel _ (two_pow_pos k)]
  · refine ⟨mag (rung w) / 2 ^ (k - up (rung w)), 0, Nat.lt_of_le_of_lt (Nat.div_le_self _ _) hm, ?_⟩
    rw [← hk]
    unfold pw
    rw [pow_split h, Nat.mul_div_mul_right _ _ (two_pow_pos _), Nat.pow_zero, Nat.mul_one]
theorem V_wholeR_T (w : Nat) : V (wholeR (T w)) = T w * P := by
  obtain ⟨q, j, hq, e⟩ := T_exact_k w 1074 rfl
  rw [e]; exact V_wholeR_k q j hq

/-- what math.Trunc makes -/
theorem write_T {w : Nat} (hT : T w < 2 ^ 64) : double.write (.number (sgn w) (T w) 0) = word (sgn w) (wholeR (T w)) := by
  unfold Format.write
  simp only
  rw [nearest_whole, Nat.min_eq_left (Nat.le_of_lt (wholeR_le hT))]

theorem trunc_eq {w : Nat} (hw : w < 2 ^ 64) (h : rung w < inf) (hT : T w < 2 ^ 64) :
    (double.order w (word (sgn w) (wholeR (T w))) != some .eq) = !decide (V (rung w) % P = 0) := by
  have hl := wholeR_le hT
  have hl' : wholeR (T w) < 2 ^ 63 := by unfold inf at hl; omega
  have hr := rung_word (sgn w) hl'
  have n1 : isNaN w = false := by unfold isNaN; simp; omega
  have n2 : isNaN (word (sgn w) (wholeR (T w))) = false := by unfold isNaN; rw [hr]; simp; omega
  show (!(double.order w (word (sgn w) (wholeR (T w))) == some .eq)) = _
  rw [float_eq hw (word_lt _ hl'), n1, n2, hr]
  congr 1
  have hiff : (w = word (sgn w) (wholeR (T w))) ↔ V (rung w) % P = 0 := by
    rw [eq_word hw (word_lt _ hl'), hr, sgn_word _ hl']
    have hv := V_wholeR_T w
    have hd := Nat.div_add_mod (V (rung w)) P
    constructor
    · rintro ⟨_, e⟩
      have : V (rung w) = T w * P := by rw [← hv, ← e]
      unfold T at this
      rw [Nat.mul_comm] at this; omega
    · intro h0
      refine ⟨rfl, V_inj ?_⟩
      rw [hv]; unfold T; rw [Nat.mul_comm]; omega
  by_cases h0 : V (rung w) % P = 0
  · simp [h0]; exact .inl (hiff.2 h0)
  · have : ¬ w = word (sgn w) (wholeR (T w)) := fun e => h0 (hiff.1 e)
    simp [h0, this]
    intro hz
    rw [hz, V_zero] at h0
    simp at h0

theorem sv_split {w : Nat} : sv w = tInt w * (P : Int) + (if sgn w then -((V (rung w) % P : Nat) : Int) else ((V (rung w) % P : Nat) : Int)) := by
  have hd := Nat.div_add_mod (V (rung w)) P
  have hd' : ((P * (V (rung w) / P) : Nat) : Int) + ((V (rung w) % P : Nat) : Int) = (V (rung w) : Int) := by omega
  rw [Int.natCast_mul] at hd'
  unfold sv tInt T
  generalize ((V (rung w) / P : Nat) : Int) = q at *
  split
  · rw [Int.neg_mul, Int.mul_comm]; omega
  · rw [Int.mul_comm]; omega

def lo63 : Nat := 14114281232179134464
def hi63 : Nat := 4890909195324358656
theorem rung_lo63 : rung lo63 = wholeR (2 ^ 63) := by decide
theorem rung_hi63 : rung hi63 = wholeR (2 ^ 63) := by decide
theorem V_63 : V (wholeR (2 ^ 63)) = 2 ^ 63 * P := by
  have := V_wholeR_k 1 63 (by decide)
  rw [Nat.one_mul, show pw 63 = 2 ^ 63 from rfl] at this
  exact this
theorem cast_63 : ((2 ^ 63 * P : Nat) : Int) = 9223372036854775808 * (P : Int) := by
  have h : ∀ q : Nat, ((2 ^ 63 * q : Nat) : Int) = 9223372036854775808 * (q : Int) := fun q => by omega
  exact h P
theorem sv_lo63 : sv lo63 = -(9223372036854775808 * (P : Int)) := by
  have g : sgn lo63 = true := by decide
  have e : sv lo63 = -((V (wholeR (2 ^ 63)) : Nat) : Int) := by unfold sv; rw [g, rung_lo63]; exact if_pos rfl
  rw [e, V_63, cast_63]
theorem sv_hi63 : sv hi63 = 9223372036854775808 * (P : Int) := by
  have g : sgn hi63 = false := by decide
  have e : sv hi63 = ((V (wholeR (2 ^ 63)) : Nat) : Int) := by unfold sv; rw [g, rung_hi63]; exact if_neg (by decide)
  rw [e, V_63, cast_63]

theorem mod_lt_P (w : Nat) : V (rung w) % P < P := Nat.mod_lt _ P_pos

theorem mul_le_iff {a b : Int} {r p : Int} (h0 : 0 ≤ r) (h1 : r < p) : b * p ≤ a * p + r ↔ b ≤ a := by
  have hp : 0 < p := by omega
  constructor
  · intro h
    rcases Int.lt_or_le a b with hlt | hge
    · have : (a + 1) * p ≤ b * p := Int.mul_le_mul_of_nonneg_right (by omega) (by omega)
      rw [Int.add_mul] at this; omega
    · exact hge
  · intro h
    have : b * p ≤ a * p := Int.mul_le_mul_of_nonneg_right h (by omega)
    omega

/-- the range, of a float that is whole -/
theorem range_whole {w : Nat} (h : rung w < inf) (h0 : V (rung w) % P = 0) :
    ((double.order w lo63 == some .gt || double.order w lo63 == some .eq) && (double.order w hi63 == some .lt)) = (decide (-9223372036854775808 ≤ tInt w) && decide (tInt w < 9223372036854775808)) := by
  have hlo : rung lo63 < inf := by decide
  have hhi : rung hi63 < inf := by decide
  rw [order_num h hlo, order_num h hhi, cmp_gt, cmp_eq, cmp_lt, sv_lo63, sv_hi63, sv_split, h0]
  have hp : (0 : Int) < (P : Int) := by have := P_pos; omega
  have hz : (if sgn w then -((0 : Nat) : Int) else ((0 : Nat) : Int)) = 0 := by split <;> rfl
  rw [hz, Int.add_zero, ← Int.neg_mul]
  generalize tInt w = t
  generalize (P : Int) = p at *
  have c1 : ((-9223372036854775808 : Int) * p < t * p) ↔ -9223372036854775808 < t := Int.mul_lt_mul_right hp
  have c2 : (t * p = (-9223372036854775808 : Int) * p) ↔ t = -9223372036854775808 := Int.mul_eq_mul_right_iff (by omega)
  have c3 : (t * p < (9223372036854775808 : Int) * p) ↔ t < 9223372036854775808 := Int.mul_lt_mul_right hp
  simp only [c1, c2, c3]
  congr 1
  by_cases h : -9223372036854775808 < t
  · simp [h]; omega
  · by_cases h' : t = -9223372036854775808
    · simp [h']
    · simp [h, h']; omega

/-- within the range the cut fits -/
theorem range_T {w : Nat} (h : rung w < inf) (hr : ((double.order w lo63 == some .gt || double.order w lo63 == some .eq) && (double.order w hi63 == some .lt)) = true) : T w ≤ 2 ^ 63 := by
  have hlo : rung lo63 < inf := by decide
  have hhi : rung hi63 < inf := by decide
  rw [order_num h hlo, order_num h hhi, cmp_gt, cmp_eq, cmp_lt, sv_lo63, sv_hi63] at hr
  have hp := P_pos
  have hV : V (rung w) ≤ 2 ^ 63 * P := by
    have e := cast_63
    have h2 : sv w = V (rung w) ∨ sv w = -(V (rung w) : Int) := by unfold sv; split <;> simp
    generalize hX : (9223372036854775808 * (P : Int)) = X at *
    simp at hr
    omega
  unfold T
  rw [Nat.div_le_iff_le_mul_add_pred hp, Nat.mul_comm]
  omega
theorem range_nan {w : Nat} (h : inf < rung w) : ((double.order w lo63 == some .gt || double.order w lo63 == some .eq) && (double.order w hi63 == some .lt)) = false := by
  rw [order_nan_l _ h, order_nan_l _ h]; rfl
theorem range_inf {w : Nat} (h : rung w = inf) : ((double.order w lo63 == some .gt || double.order w lo63 == some .eq) && (double.order w hi63 == some .lt)) = false := by
  rw [order_inf_num h (by decide), order_inf_num h (by decide)]; cases sgn w <;> rfl
end FloatPlain
