/- Plain facts on the model's rounding of whole multiples of 2^-1074: no program in sight. -/
import Ieee.Arith
namespace FloatPlain
open Ieee

/-- 'N / 2^d' rounded to the nearest whole number, ties to even. -/
def E (N d : Nat) : Nat := N / 2 ^ d + if 2 ^ d < 2 * (N % 2 ^ d) ∨ (2 ^ d = 2 * (N % 2 ^ d) ∧ N / 2 ^ d % 2 = 1) then 1 else 0

theorem two_pow_pos (d : Nat) : 0 < 2 ^ d := Nat.two_pow_pos d

theorem cut_even (N d : Nat) (h : d ≤ N.log2 + 2) (neg : Bool) : Toward.even.cut neg N d = E N d := by
  unfold Toward.cut E
  simp only [Nat.min_eq_left h, Nat.one_shiftLeft]
  congr 1
  by_cases h1 : 2 ^ d < 2 * (N % 2 ^ d)
  · simp [h1]
  · by_cases h2 : 2 ^ d = 2 * (N % 2 ^ d) ∧ N / 2 ^ d % 2 = 1
    · rw [if_pos (.inr h2)]
      obtain ⟨a, b⟩ := h2
      simp [← a, b]
    · rw [if_neg (by rintro (h | h); exact h1 h; exact h2 h)]
      have : (2 ^ d == 2 * (N % 2 ^ d) && N / 2 ^ d % 2 == 1) = false := by
        rw [Bool.eq_false_iff]
        intro hb
        rw [Bool.and_eq_true, beq_iff_eq, beq_iff_eq] at hb
        exact h2 hb
      simp [h1, this]

theorem E_zero (N : Nat) : E N 0 = N := by unfold E; simp [Nat.mod_one]
theorem E_le (N d : Nat) : E N d ≤ N / 2 ^ d + 1 := by unfold E; split <;> omega
theorem le_E (N d : Nat) : N / 2 ^ d ≤ E N d := by unfold E; split <;> omega
theorem E_exact (q d : Nat) : E (q * 2 ^ d) d = q := by
  have := two_pow_pos d
  unfold E
  rw [Nat.mul_div_cancel _ this, Nat.mul_mod_left]
  simp
theorem E_mono {N M : Nat} (d : Nat) (h : N ≤ M) : E N d ≤ E M d := by
  have hp := two_pow_pos d
  have hdiv : N / 2 ^ d ≤ M / 2 ^ d := Nat.div_le_div_right h
  by_cases he : N / 2 ^ d = M / 2 ^ d
  · unfold E
    have h1 := Nat.div_add_mod N (2 ^ d)
    have h2 := Nat.div_add_mod M (2 ^ d)
    rw [he] at h1 ⊢
    have hr : N % 2 ^ d ≤ M % 2 ^ d := by omega
    apply Nat.add_le_add_left
    split
    · rename_i hc
      rw [if_pos]
      · exact Nat.le_refl _
      · rcases hc with hc | ⟨hc, ho⟩
        · left; omega
        · rcases Nat.lt_or_ge (2 ^ d) (2 * (M % 2 ^ d)) with h | h
          · exact .inl h
          · right; exact ⟨by omega, ho⟩
    · omega
  · have := E_le N d
    have := le_E M d
    omega
/-- both scaled -/
theorem E_scale (m k d : Nat) (h : k ≤ d) : E (m * 2 ^ k) d = E m (d - k) := by
  obtain ⟨j, rfl⟩ : ∃ j, d = j + k := ⟨d - k, by omega⟩
  rw [Nat.add_sub_cancel]
  have hk := two_pow_pos k
  have e1 : m * 2 ^ k / 2 ^ (j + k) = m / 2 ^ j := by rw [Nat.pow_add]; exact Nat.mul_div_mul_right _ _ hk
  have e2 : m * 2 ^ k % 2 ^ (j + k) = m % 2 ^ j * 2 ^ k := by rw [Nat.pow_add]; exact Nat.mul_mod_mul_right _ _ _
  unfold E
  rw [e1, e2]
  congr 1
  have c1 : (2 ^ (j + k) < 2 * (m % 2 ^ j * 2 ^ k)) ↔ 2 ^ j < 2 * (m % 2 ^ j) := by
    rw [Nat.pow_add, ← Nat.mul_assoc]; exact Nat.mul_lt_mul_right hk
  have c2 : (2 ^ (j + k) = 2 * (m % 2 ^ j * 2 ^ k)) ↔ 2 ^ j = 2 * (m % 2 ^ j) := by
    rw [Nat.pow_add, ← Nat.mul_assoc]; exact Nat.mul_left_inj (by omega)
  simp only [c1, c2]
theorem E_big (m k d : Nat) (h : d ≤ k) : E (m * 2 ^ k) d = m * 2 ^ (k - d) := by
  obtain ⟨j, rfl⟩ : ∃ j, k = j + d := ⟨k - d, by omega⟩
  rw [Nat.add_sub_cancel, Nat.pow_add, ← Nat.mul_assoc, E_exact]

theorem log2_shift (m k : Nat) (h : m ≠ 0) : (m * 2 ^ k).log2 = m.log2 + k := by
  have hm := Nat.log2_self_le h
  have hm' := @Nat.lt_log2_self m
  have hk := two_pow_pos k
  rw [Nat.log2_eq_iff (by have := Nat.mul_pos (Nat.pos_of_ne_zero h) hk; omega)]
  constructor
  · rw [Nat.pow_add]; exact Nat.mul_le_mul_right _ hm
  · rw [show m.log2 + k + 1 = (m.log2 + 1) + k from by omega, Nat.pow_add]; exact Nat.mul_lt_mul_of_pos_right hm' hk

/-- The rung nearest to 'N * 2^-1074', were there no greatest one. -/
def R (N : Nat) : Nat := (N.log2 - 52) * 2 ^ 52 + E N (N.log2 - 52)

theorem R_zero : R 0 = 0 := by decide

theorem nearest_eq (neg : Bool) (mag k : Nat) : double.nearest neg mag (-1074 + (k : Int)) = double.word neg (min (R (mag * 2 ^ k)) double.infRung) := by
  by_cases h : mag = 0
  · subst h
    rw [Nat.zero_mul, R_zero]
    simp [Format.nearest]
  · unfold Format.nearest
    rw [if_neg h]
    have hl : double.leastPlace = -1074 := rfl
    have hf : (double.fractionBits : Int) = 52 := rfl
    have hb : double.binade = 2 ^ 52 := rfl
    simp only [hl, hf, hb, Nat.shiftLeft_eq]
    refine congrArg (fun t => double.word neg (min t double.infRung)) ?_
    unfold R
    rw [log2_shift _ _ h]
    have hlast : max (-1074 + (k : Int) + (mag.log2 : Int) - 52) (-1074) = -1074 + ((mag.log2 + k - 52 : Nat) : Int) := by omega
    rw [hlast]
    generalize hL : mag.log2 + k - 52 = L
    have e1 : ((-1074 + (L : Int)) - (-1074)).toNat = L := by omega
    have e2 : (-1074 + (k : Int) - (-1074 + (L : Int))).toNat = k - L := by omega
    have e3 : ((-1074 + (L : Int)) - (-1074 + (k : Int))).toNat = L - k := by omega
    rw [e1, e2, e3]
    congr 1
    rcases Nat.le_total L k with hle | hle
    · rw [show L - k = 0 from by omega, cut_even _ _ (by omega), E_zero, E_big _ _ _ hle]
    · rw [show k - L = 0 from by omega, Nat.pow_zero, Nat.mul_one, cut_even _ _ (by omega), E_scale _ _ _ hle]

theorem R_of_lt {N : Nat} (h : N < 2 ^ 53) : R N = N := by
  unfold R
  have : N.log2 - 52 = 0 := by
    by_cases h0 : N = 0
    · subst h0; decide
    · have := (Nat.log2_lt h0).2 h; omega
  rw [this, E_zero]; simp

theorem R_of_norm {N L : Nat} (h1 : 2 ^ (L + 52) ≤ N) (h2 : N < 2 ^ (L + 53)) : R N = L * 2 ^ 52 + E N L := by
  have h0 : N ≠ 0 := by have := two_pow_pos (L + 52); omega
  have : N.log2 = L + 52 := (Nat.log2_eq_iff h0).2 ⟨h1, h2⟩
  unfold R; rw [this, Nat.add_sub_cancel]

/-- every N is below 2^53, or in a binade -/
theorem norm_or (N : Nat) : N < 2 ^ 53 ∨ ∃ L, 2 ^ (L + 52) ≤ N ∧ N < 2 ^ (L + 53) ∧ 1 ≤ L := by
  rcases Nat.lt_or_ge N (2 ^ 53) with h | h
  · exact .inl h
  · right
    have h0 : N ≠ 0 := by omega
    have h1 : 53 ≤ N.log2 := (Nat.le_log2 h0).2 h
    refine ⟨N.log2 - 52, ?_, ?_, by omega⟩
    · rw [show N.log2 - 52 + 52 = N.log2 from by omega]; exact Nat.log2_self_le h0
    · rw [show N.log2 - 52 + 53 = N.log2 + 1 from by omega]; exact Nat.lt_log2_self

theorem E_bounds {N L : Nat} (h1 : 2 ^ (L + 52) ≤ N) (h2 : N < 2 ^ (L + 53)) : 2 ^ 52 ≤ E N L ∧ E N L ≤ 2 ^ 53 := by
  have hp := two_pow_pos L
  have a : 2 ^ 52 ≤ N / 2 ^ L := by rw [Nat.le_div_iff_mul_le hp, ← Nat.pow_add, Nat.add_comm]; exact h1
  have b : N / 2 ^ L < 2 ^ 53 := by rw [Nat.div_lt_iff_lt_mul hp, ← Nat.pow_add, Nat.add_comm]; exact h2
  have := le_E N L
  have := E_le N L
  omega

theorem R_mono {N M : Nat} (h : N ≤ M) : R N ≤ R M := by
  rcases norm_or M with hM | ⟨L, hM1, hM2, hL⟩
  · rw [R_of_lt hM, R_of_lt (by omega)]; exact h
  · rw [R_of_norm hM1 hM2]
    have bM := E_bounds hM1 hM2
    rcases norm_or N with hN | ⟨K, hN1, hN2, hK⟩
    · rw [R_of_lt hN]
      have : 1 * 2 ^ 52 ≤ L * 2 ^ 52 := Nat.mul_le_mul_right _ hL
      omega
    · rw [R_of_norm hN1 hN2]
      have bN := E_bounds hN1 hN2
      have hKL : K ≤ L := by
        rcases Nat.lt_or_ge L K with hlt | hge
        · have : 2 ^ (L + 53) ≤ 2 ^ (K + 52) := Nat.pow_le_pow_right (by omega) (by omega)
          omega
        · exact hge
      rcases Nat.lt_or_ge K L with hlt | hge
      · have : (K + 1) * 2 ^ 52 ≤ L * 2 ^ 52 := Nat.mul_le_mul_right _ hlt
        omega
      · have : K = L := by omega
        subst this
        have := E_mono K h
        omega

/-- The value of a rung, in units of 2^-1074. -/
def mag (r : Nat) : Nat := if r < 2 ^ 52 then r else 2 ^ 52 + r % 2 ^ 52
def up (r : Nat) : Nat := if r < 2 ^ 52 then 0 else r / 2 ^ 52 - 1
def V (r : Nat) : Nat := mag r * 2 ^ up r

theorem mag_lt (r : Nat) : mag r < 2 ^ 53 := by unfold mag; split <;> omega
theorem V_of_lt {r : Nat} (h : r < 2 ^ 53) : V r = r := by
  unfold V mag up
  split
  · simp
  · rename_i h1
    have : r / 2 ^ 52 = 1 := by omega
    rw [this]; simp; omega
theorem V_of_norm {L q : Nat} (h1 : 2 ^ 52 ≤ q) (h2 : q < 2 ^ 53) : V (L * 2 ^ 52 + q) = q * 2 ^ L := by
  have e1 : (L * 2 ^ 52 + q) / 2 ^ 52 = L + 1 := by omega
  have e2 : (L * 2 ^ 52 + q) % 2 ^ 52 = q - 2 ^ 52 := by omega
  unfold V mag up
  rw [if_neg (by omega), if_neg (by omega), e1, e2, Nat.add_sub_cancel, show 2 ^ 52 + (q - 2 ^ 52) = q from by omega]
/-- 2^53 * 2^L is the next binade's first -/
theorem V_top (L : Nat) : V (L * 2 ^ 52 + 2 ^ 53) = 2 ^ 53 * 2 ^ L := by
  have := V_of_norm (L := L + 1) (q := 2 ^ 52) (by omega) (by omega)
  rw [show (L + 1) * 2 ^ 52 + 2 ^ 52 = L * 2 ^ 52 + 2 ^ 53 from by omega] at this
  rw [this, Nat.pow_succ]
  omega
/-- each rung is small, or a binade and a place in it -/
theorem rung_or (r : Nat) : r < 2 ^ 53 ∨ ∃ L q, r = L * 2 ^ 52 + q ∧ 2 ^ 52 ≤ q ∧ q < 2 ^ 53 ∧ 1 ≤ L := by
  rcases Nat.lt_or_ge r (2 ^ 53) with h | h
  · exact .inl h
  · exact .inr ⟨r / 2 ^ 52 - 1, 2 ^ 52 + r % 2 ^ 52, by omega, by omega, by omega, by omega⟩

theorem R_V (r : Nat) : R (V r) = r := by
  rcases rung_or r with h | ⟨L, q, rfl, h1, h2, _⟩
  · rw [V_of_lt h, R_of_lt h]
  · rw [V_of_norm h1 h2, R_of_norm (L := L), E_exact]
    · rw [Nat.add_comm L, Nat.pow_add]; exact Nat.mul_le_mul_right _ h1
    · rw [Nat.add_comm L, Nat.pow_add]; exact Nat.mul_lt_mul_of_pos_right h2 (two_pow_pos L)

/-- what has at most 53 digits is met -/
theorem V_R_exact (q k : Nat) (h : q < 2 ^ 53) : V (R (q * 2 ^ k)) = q * 2 ^ k := by
  rcases norm_or (q * 2 ^ k) with hs | ⟨L, h1, h2, _⟩
  · rw [R_of_lt hs, V_of_lt hs]
  · have hk : L ≤ k := by
      rcases Nat.lt_or_ge k L with hlt | hge
      · have a : q * 2 ^ k < 2 ^ 53 * 2 ^ k := Nat.mul_lt_mul_of_pos_right h (two_pow_pos k)
        have b : 2 ^ 53 * 2 ^ k ≤ 2 ^ (L + 52) := by rw [← Nat.pow_add]; exact Nat.pow_le_pow_right (by omega) (by omega)
        omega
      · exact hge
    have bd := E_bounds h1 h2
    rw [R_of_norm h1 h2, E_big _ _ _ hk]
    rw [E_big _ _ _ hk] at bd
    have e : q * 2 ^ (k - L) * 2 ^ L = q * 2 ^ k := by rw [Nat.mul_assoc, ← Nat.pow_add]; congr 2; omega
    rcases Nat.lt_or_ge (q * 2 ^ (k - L)) (2 ^ 53) with hlt | hge
    · rw [V_of_norm bd.1 hlt, e]
    · have : q * 2 ^ (k - L) = 2 ^ 53 := by omega
      rw [this, V_top, ← this, e]
theorem V_mono {r s : Nat} (h : r ≤ s) : V r ≤ V s := by
  rcases Nat.lt_or_ge (V s) (V r) with hlt | hge
  · have := R_mono (Nat.le_of_lt hlt)
    rw [R_V, R_V] at this
    have : r = s := by omega
    subst this
    omega
  · exact hge
theorem V_strict {r s : Nat} (h : r < s) : V r < V s := by
  have h1 := V_mono (Nat.le_of_lt h)
  rcases Nat.lt_or_ge (V r) (V s) with hlt | hge
  · exact hlt
  · have e : V r = V s := by omega
    have := R_V r
    rw [e, R_V] at this
    omega
theorem V_inj {r s : Nat} (h : V r = V s) : r = s := by
  have := R_V r
  rw [h, R_V] at this; exact this.symm
theorem V_zero : V 0 = 0 := by decide
theorem V_eq_zero {r : Nat} (h : V r = 0) : r = 0 := V_inj (h.trans V_zero.symm)
/-- rounding stays within what is a rung's own value -/
theorem V_R_le {N r : Nat} (h : N ≤ V r) : V (R N) ≤ V r := by
  have := R_mono h
  rw [R_V] at this
  exact V_mono this

/-! ### words -/
def inf : Nat := 2047 * 2 ^ 52
theorem infRung_eq : double.infRung = inf := rfl
def rung (w : Nat) : Nat := w % 2 ^ 63
def sgn (w : Nat) : Bool := w / 2 ^ 63 % 2 == 1
/-- the value of a word, in units of 2^-1074, with its sign -/
def sv (w : Nat) : Int := if sgn w then -(V (rung w) : Int) else (V (rung w) : Int)
def word (neg : Bool) (r : Nat) : Nat := if neg then 2 ^ 63 + r else r

theorem word_eq (neg : Bool) (r : Nat) : double.word neg r = word neg r := rfl
theorem rung_lt (w : Nat) : rung w < 2 ^ 63 := Nat.mod_lt _ (by omega)
theorem rung_word (neg : Bool) {r : Nat} (h : r < 2 ^ 63) : rung (word neg r) = r := by unfold rung word; split <;> omega
theorem sgn_word (neg : Bool) {r : Nat} (h : r < 2 ^ 63) : sgn (word neg r) = neg := by
  unfold sgn word
  cases neg
  · have : r / 2 ^ 63 % 2 = 0 := by omega
    simp [this]
  · have : (2 ^ 63 + r) / 2 ^ 63 % 2 = 1 := by omega
    show ((2 ^ 63 + r) / 2 ^ 63 % 2 == 1) = true
    rw [this]; rfl
theorem word_lt (neg : Bool) {r : Nat} (h : r < 2 ^ 63) : word neg r < 2 ^ 64 := by unfold word; split <;> omega
theorem word_rung {w : Nat} (h : w < 2 ^ 64) : word (sgn w) (rung w) = w := by
  unfold word sgn rung
  by_cases hs : w / 2 ^ 63 % 2 = 1
  · simp [hs]; omega
  · have : (w / 2 ^ 63 % 2 == 1) = false := by simpa using hs
    simp [this]; omega

theorem read_num {w : Nat} (h : rung w < inf) : double.read w = .number (sgn w) (mag (rung w)) (-1074 + (up (rung w) : Int)) := by
  unfold Format.read
  have e1 : double.signWeight = 2 ^ 63 := rfl
  have e2 : double.binade = 2 ^ 52 := rfl
  have e3 : double.leastPlace = -1074 := rfl
  simp only [e1, e2, e3, infRung_eq]
  show (if rung w < 2 ^ 52 then _ else if rung w < inf then _ else _) = _
  unfold mag up
  by_cases h1 : rung w < 2 ^ 52
  · rw [if_pos h1, if_pos h1, if_pos h1]; rfl
  · rw [if_neg h1, if_neg h1, if_neg h1, if_pos h]; rfl
theorem read_inf {w : Nat} (h : rung w = inf) : double.read w = .infinity (sgn w) := by
  unfold Format.read
  have e1 : double.signWeight = 2 ^ 63 := rfl
  have e2 : double.binade = 2 ^ 52 := rfl
  simp only [e1, e2, infRung_eq]
  show (if rung w < 2 ^ 52 then _ else if rung w < inf then _ else if rung w = inf then _ else _) = _
  rw [if_neg (by rw [h]; decide), if_neg (by omega), if_pos h]; rfl
theorem read_nan {w : Nat} (h : inf < rung w) : double.read w = .nan (sgn w) (rung w - inf) := by
  unfold Format.read
  have e1 : double.signWeight = 2 ^ 63 := rfl
  have e2 : double.binade = 2 ^ 52 := rfl
  simp only [e1, e2, infRung_eq]
  show (if rung w < 2 ^ 52 then _ else if rung w < inf then _ else if rung w = inf then _ else _) = _
  rw [if_neg (by unfold inf at h; omega), if_neg (by omega), if_neg (by omega)]; rfl

theorem signed_eq (neg : Bool) (m k : Nat) : signed neg m k = if neg then -((m * 2 ^ k : Nat) : Int) else ((m * 2 ^ k : Nat) : Int) := by
  unfold signed; rw [Nat.shiftLeft_eq]
theorem signed_scale (neg : Bool) (m a b : Nat) : signed neg m (a + b) = signed neg m a * ((2 ^ b : Nat) : Int) := by
  rw [signed_eq, signed_eq, Nat.pow_add, ← Nat.mul_assoc]
  cases neg
  · simp
  · simp [Int.neg_mul]
theorem sv_signed (w : Nat) : sv w = signed (sgn w) (mag (rung w)) (up (rung w)) := by rw [signed_eq]; rfl

/-- what a finite sum comes to -/
def fsum (neg : Bool) (T : Int) : Nat := word (if T = 0 then neg else decide (T < 0)) (min (R T.natAbs) inf)

theorem sub_min (a b : Nat) : (-1074 + (a : Int) - min (-1074 + (a : Int)) (-1074 + (b : Int))).toNat = a - min a b := by omega
theorem sub_min' (a b : Nat) : (-1074 + (b : Int) - min (-1074 + (a : Int)) (-1074 + (b : Int))).toNat = b - min a b := by omega

theorem add_num {x y : Nat} (hx : rung x < inf) (hy : rung y < inf) : double.add x y = some (fsum (sgn x && sgn y) (sv x + sv y)) := by
  unfold Format.add
  rw [read_num hx, read_num hy]
  simp only [Datum.sum, Option.map_some, sub_min, sub_min']
  rw [sv_signed, sv_signed]
  generalize hm : min (up (rung x)) (up (rung y)) = m
  have hmi : min (-1074 + (up (rung x) : Int)) (-1074 + (up (rung y) : Int)) = -1074 + (m : Int) := by omega
  have ea : up (rung x) = (up (rung x) - m) + m := by omega
  have eb : up (rung y) = (up (rung y) - m) + m := by omega
  have hs : signed (sgn x) (mag (rung x)) (up (rung x)) + signed (sgn y) (mag (rung y)) (up (rung y)) =
      (signed (sgn x) (mag (rung x)) (up (rung x) - m) + signed (sgn y) (mag (rung y)) (up (rung y) - m)) * ((2 ^ m : Nat) : Int) := by
    rw [Int.add_mul, ← signed_scale, ← signed_scale, ← ea, ← eb]
  rw [hs, hmi]
  generalize signed (sgn x) (mag (rung x)) (up (rung x) - m) + signed (sgn y) (mag (rung y)) (up (rung y) - m) = T
  have hp : (0 : Int) < ((2 ^ m : Nat) : Int) := by have := two_pow_pos m; omega
  unfold Format.write fsum
  simp only
  rw [nearest_eq, Int.natAbs_mul, Int.natAbs_natCast, word_eq, infRung_eq]
  have h0 : (T * ((2 ^ m : Nat) : Int) = 0) ↔ T = 0 := by
    constructor
    · intro h
      rcases Int.mul_eq_zero.1 h with h | h
      · exact h
      · omega
    · intro h; rw [h, Int.zero_mul]
  have h1 : (T * ((2 ^ m : Nat) : Int) < 0) ↔ T < 0 := by
    constructor
    · intro h
      rcases Int.lt_or_le T 0 with h' | h'
      · exact h'
      · have := Int.mul_nonneg h' (Int.le_of_lt hp); omega
    · intro h; exact Int.mul_neg_of_neg_of_pos h hp
  simp only [h0, h1]

theorem order_num {x y : Nat} (hx : rung x < inf) (hy : rung y < inf) : double.order x y = some (compare (sv x) (sv y)) := by
  unfold Format.order
  rw [read_num hx, read_num hy]
  simp only [Datum.order, sub_min, sub_min']
  rw [sv_signed, sv_signed]
  generalize hm : min (up (rung x)) (up (rung y)) = m
  have ea : up (rung x) = (up (rung x) - m) + m := by omega
  have eb : up (rung y) = (up (rung y) - m) + m := by omega
  have h1 : signed (sgn x) (mag (rung x)) (up (rung x)) = signed (sgn x) (mag (rung x)) (up (rung x) - m) * ((2 ^ m : Nat) : Int) := by rw [← signed_scale, ← ea]
  have h2 : signed (sgn y) (mag (rung y)) (up (rung y)) = signed (sgn y) (mag (rung y)) (up (rung y) - m) * ((2 ^ m : Nat) : Int) := by rw [← signed_scale, ← eb]
  rw [h1, h2]
  generalize signed (sgn x) (mag (rung x)) (up (rung x) - m) = a
  generalize signed (sgn y) (mag (rung y)) (up (rung y) - m) = b
  have hp : (0 : Int) < ((2 ^ m : Nat) : Int) := by have := two_pow_pos m; omega
  congr 1
  simp only [compare, compareOfLessAndEq]
  have c1 : (a * ((2 ^ m : Nat) : Int) < b * ((2 ^ m : Nat) : Int)) ↔ a < b := Int.mul_lt_mul_right hp
  have c2 : (a * ((2 ^ m : Nat) : Int) = b * ((2 ^ m : Nat) : Int)) ↔ a = b := Int.mul_eq_mul_right_iff (by omega)
  simp only [c1, c2]

/-! ### NaNs, infinities -/
def isNaN (w : Nat) : Bool := decide (inf < rung w)

theorem read_cases (w : Nat) : rung w < inf ∨ rung w = inf ∨ inf < rung w := by omega
theorem order_nan_l {x : Nat} (y : Nat) (h : inf < rung x) : double.order x y = none := by
  unfold Format.order; rw [read_nan h]; rfl
theorem order_nan_r (x : Nat) {y : Nat} (h : inf < rung y) : double.order x y = none := by
  unfold Format.order; rw [read_nan h]; cases double.read x <;> rfl
theorem order_inf_inf {x y : Nat} (hx : rung x = inf) (hy : rung y = inf) : double.order x y = some (compare (sgn y).toNat (sgn x).toNat) := by
  unfold Format.order; rw [read_inf hx, read_inf hy]; rfl
theorem order_inf_num {x y : Nat} (hx : rung x = inf) (hy : rung y < inf) : double.order x y = some (if sgn x then .lt else .gt) := by
  unfold Format.order; rw [read_inf hx, read_num hy]; rfl
theorem order_num_inf {x y : Nat} (hx : rung x < inf) (hy : rung y = inf) : double.order x y = some (if sgn y then .gt else .lt) := by
  unfold Format.order; rw [read_inf hy, read_num hx]; rfl
theorem add_nan_l {x : Nat} (y : Nat) (h : inf < rung x) : double.add x y = none := by
  unfold Format.add; rw [read_nan h]; rfl
theorem add_nan_r (x : Nat) {y : Nat} (h : inf < rung y) : double.add x y = none := by
  unfold Format.add; rw [read_nan h]; cases double.read x <;> rfl
theorem add_inf_inf {x y : Nat} (hx : rung x = inf) (hy : rung y = inf) : double.add x y = if sgn x = sgn y then some (word (sgn x) inf) else none := by
  unfold Format.add; rw [read_inf hx, read_inf hy]
  simp only [Datum.sum]
  split <;> rfl
theorem add_inf_num {x y : Nat} (hx : rung x = inf) (hy : rung y < inf) : double.add x y = some (word (sgn x) inf) := by
  unfold Format.add; rw [read_inf hx, read_num hy]; rfl
theorem add_num_inf {x y : Nat} (hx : rung x < inf) (hy : rung y = inf) : double.add x y = some (word (sgn y) inf) := by
  unfold Format.add; rw [read_num hx, read_inf hy]; rfl

theorem sub_self_num {x : Nat} (hx : rung x < inf) : double.sub x x = some 0 := by
  unfold Format.sub
  rw [read_num hx]
  simp only [Datum.opposite, Datum.sum, Option.map_some, Int.min_self]
  generalize mag (rung x) = m
  have h : signed (sgn x) m (-1074 + (up (rung x) : Int) - (-1074 + (up (rung x) : Int))).toNat + signed (!sgn x) m (-1074 + (up (rung x) : Int) - (-1074 + (up (rung x) : Int))).toNat = 0 := by
    unfold signed; cases sgn x <;> simp <;> omega
  rw [h, if_pos rfl]
  unfold Format.write
  cases sgn x <;> rfl
theorem sub_self_inf {x : Nat} (hx : rung x = inf) : double.sub x x = none := by
  unfold Format.sub
  rw [read_inf hx]
  simp only [Datum.opposite, Datum.sum]
  cases sgn x <;> rfl

theorem cmp_eq (a b : Int) : (some (compare a b) == some Ordering.eq) = decide (a = b) := by
  simp only [compare, compareOfLessAndEq]
  by_cases h1 : a < b
  · simp [h1, Int.ne_of_lt h1]
  · by_cases h2 : a = b
    · simp [h2]
    · simp [h1, h2]
theorem cmp_lt (a b : Int) : (some (compare a b) == some Ordering.lt) = decide (a < b) := by
  simp only [compare, compareOfLessAndEq]
  by_cases h1 : a < b
  · simp [h1]
  · by_cases h2 : a = b
    · simp [h2]
    · simp [h1, h2]
theorem cmp_gt (a b : Int) : (some (compare a b) == some Ordering.gt) = decide (b < a) := by
  simp only [compare, compareOfLessAndEq]
  by_cases h1 : a < b
  · simp [h1]; omega
  · by_cases h2 : a = b
    · simp [h2]
    · simp [h1, h2]; omega

/-- a float is equal to itself, if it is no NaN -/
theorem self_eq (w : Nat) : (double.order w w == some .eq) = !isNaN w := by
  unfold isNaN
  rcases read_cases w with h | h | h
  · rw [order_num h h, cmp_eq]; simp; omega
  · rw [order_inf_inf h h]; cases sgn w <;> simp [h] <;> decide
  · rw [order_nan_l _ h]; simp [h]

/-- the value of zero alone is 0 -/
theorem sv_zero {w : Nat} : sv w = 0 ↔ rung w = 0 := by
  unfold sv
  constructor
  · intro h
    refine V_eq_zero ?_
    split at h <;> omega
  · intro h; rw [h, V_zero]; split <;> rfl
theorem sv_inj {a b : Nat} (ha : a < 2 ^ 64) (hb : b < 2 ^ 64) (h : sv a = sv b) : a = b ∨ (rung a = 0 ∧ rung b = 0) := by
  by_cases h0 : rung a = 0
  · right; exact ⟨h0, sv_zero.1 (h ▸ sv_zero.2 h0)⟩
  left
  have pa : 0 < V (rung a) := by
    rcases Nat.eq_zero_or_pos (V (rung a)) with h | h
    · exact absurd (V_eq_zero h) h0
    · exact h
  unfold sv at h
  have hs : sgn a = sgn b := by
    cases ha' : sgn a <;> cases hb' : sgn b <;> simp [ha', hb'] at h ⊢ <;> omega
  have hr : rung a = rung b := by
    rw [hs] at h
    refine V_inj ?_
    split at h <;> omega
  rw [← word_rung ha, ← word_rung hb, hs, hr]
theorem eq_word {a b : Nat} (ha : a < 2 ^ 64) (hb : b < 2 ^ 64) : a = b ↔ (sgn a = sgn b ∧ rung a = rung b) :=
  ⟨fun h => by subst h; exact ⟨rfl, rfl⟩, fun ⟨h1, h2⟩ => by rw [← word_rung ha, ← word_rung hb, h1, h2]⟩

/-- equality of floats, by the bits -/
theorem float_eq {a b : Nat} (ha : a < 2 ^ 64) (hb : b < 2 ^ 64) :
    (double.order a b == some .eq) = (!isNaN a && !isNaN b && (decide (a = b) || (decide (rung a = 0) && decide (rung b = 0)))) := by
  unfold isNaN
  rcases read_cases a with h | h | h
  · rcases read_cases b with k | k | k
    · rw [order_num h k, cmp_eq]
      have e1 : decide (inf < rung a) = false := by simp; omega
      have e2 : decide (inf < rung b) = false := by simp; omega
      rw [e1, e2]
      by_cases hab : sv a = sv b
      · rcases sv_inj ha hb hab with h | ⟨h, k⟩
        · simp [h]
        · simp [hab, h, k]
      · have h1 : a ≠ b := fun e => hab (by rw [e])
        have h2 : ¬ (rung a = 0 ∧ rung b = 0) := fun ⟨x, y⟩ => hab ((sv_zero.2 x).trans (sv_zero.2 y).symm)
        have h2' : (decide (rung a = 0) && decide (rung b = 0)) = false := by
          rw [Bool.eq_false_iff]; intro hh; rw [Bool.and_eq_true, decide_eq_true_iff, decide_eq_true_iff] at hh; exact h2 hh
        simp [hab, h1, h2']
    · rw [order_num_inf h k]
      have h1 : a ≠ b := fun e => by rw [e] at h; omega
      have h2 : ¬ rung b = 0 := by rw [k]; decide
      simp [h1, h2]; cases sgn b <;> simp
    · rw [order_nan_r _ k]; simp [k]
  · rcases read_cases b with k | k | k
    · rw [order_inf_num h k]
      have h1 : a ≠ b := fun e => by rw [e] at h; omega
      have h2 : ¬ rung a = 0 := by rw [h]; decide
      simp [h1, h2]; cases sgn a <;> simp
    · rw [order_inf_inf h k]
      have e : decide (a = b) = decide (sgn a = sgn b) := by
        rw [decide_eq_decide, eq_word ha hb, h, k]; simp
      rw [e, h, k]
      cases sgn a <;> cases sgn b <;> decide
    · rw [order_nan_r _ k]; simp [k]
  · rw [order_nan_l _ h]; simp [h]

/-! ### kinds -/
def kind (w : Nat) : Int := if inf < rung w then 0 else if rung w = inf then 1 else if rung w = 0 then 4 else if rung w < 2 ^ 52 then 3 else 2

theorem eq_zero {w : Nat} (hw : w < 2 ^ 64) (h : rung w ≤ inf) : (double.order w 0 == some .eq) = decide (rung w = 0) := by
  have h0 : rung 0 = 0 := by decide
  have hn : isNaN w = false := by unfold isNaN; simp; omega
  have hn0 : isNaN 0 = false := by decide
  rw [float_eq hw (by decide), hn, hn0, h0]
  by_cases hz : w = 0
  · subst hz; decide
  · simp [hz]
theorem nan_ne {x : Nat} (y : Nat) (h : inf < rung x) : (double.order x y != some .eq) = true := by rw [order_nan_l _ h]; rfl

theorem sv_lt {w : Nat} (h : rung w < 2 ^ 52) : -(2 ^ 52 : Int) < sv w ∧ sv w < 2 ^ 52 := by
  have := V_of_lt (r := rung w) (by omega)
  unfold sv; split <;> omega
theorem le_sv {w : Nat} (h : 2 ^ 52 ≤ rung w) : sv w ≤ -(2 ^ 52 : Int) ∨ (2 ^ 52 : Int) ≤ sv w := by
  have h1 := V_mono h
  have h2 := V_of_lt (r := 2 ^ 52) (by omega)
  unfold sv; split <;> omega
/-- between the least normal ones -/
theorem gt_lo {w : Nat} (h : rung w < inf) : ((double.order w 9227875636482146304 == some .gt) && (double.order w 4503599627370496 == some .lt)) = decide (rung w < 2 ^ 52) := by
  have r1 : rung 9227875636482146304 = 2 ^ 52 := by decide
  have r2 : rung 4503599627370496 = 2 ^ 52 := by decide
  have v2 := V_of_lt (r := 2 ^ 52) (by omega)
  have s1 : sv 9227875636482146304 = -(2 ^ 52 : Int) := by
    have g : sgn 9227875636482146304 = true := by decide
    unfold sv; rw [r1, v2, g]; rfl
  have s2 : sv 4503599627370496 = (2 ^ 52 : Int) := by
    have g : sgn 4503599627370496 = false := by decide
    unfold sv; rw [r2, v2, g]; rfl
  rw [order_num h (by rw [r1]; decide), order_num h (by rw [r2]; decide), cmp_gt, cmp_lt, s1, s2]
  by_cases hr : rung w < 2 ^ 52
  · have := sv_lt hr
    have a : decide (-(2 ^ 52 : Int) < sv w) = true := by simpa using this.1
    have b : decide (sv w < (2 ^ 52 : Int)) = true := by simpa using this.2
    rw [a, b]; simp [hr]
  · have := le_sv (w := w) (by omega)
    have e : decide (rung w < 2 ^ 52) = false := by simpa using Nat.le_of_not_lt hr
    rw [e]
    rcases this with h | h
    · have : decide (-(2 ^ 52 : Int) < sv w) = false := by simpa using h
      rw [this]; rfl
    · have : decide (sv w < (2 ^ 52 : Int)) = false := by simpa using h
      rw [this, Bool.and_false]

/-! ### the float of a whole number -/
theorem R_int {M : Nat} (k : Nat) (h : M ≠ 0) (hk : 52 ≤ k) :
    R (M * 2 ^ k) = (M.log2 + (k - 52)) * 2 ^ 52 + if M.log2 ≤ 52 then M * 2 ^ (52 - M.log2) else E M (M.log2 - 52) := by
  unfold R
  rw [log2_shift _ _ h, show M.log2 + k - 52 = M.log2 + (k - 52) from by omega]
  refine congrArg (fun t => (M.log2 + (k - 52)) * 2 ^ 52 + t) ?_
  split
  · rw [E_big _ _ _ (by omega), show k - (M.log2 + (k - 52)) = 52 - M.log2 from by omega]
  · rw [E_scale _ _ _ (by omega), show M.log2 + (k - 52) - k = M.log2 - 52 from by omega]

/-- the rung of a whole number -/
def wholeR (M : Nat) : Nat := if M = 0 then 0 else (M.log2 + 1022) * 2 ^ 52 + if M.log2 ≤ 52 then M * 2 ^ (52 - M.log2) else E M (M.log2 - 52)
def pw (k : Nat) : Nat := 2 ^ k
theorem pw_pos (k : Nat) : 0 < pw k := two_pow_pos k
theorem pw_add (a b : Nat) : pw (a + b) = pw a * pw b := Nat.pow_add 2 a b
theorem R_zero_mul (k : Nat) : R (0 * pw k) = 0 := by rw [Nat.zero_mul, R_zero]
theorem wholeR_eq_k (M k : Nat) (hk : k = 1074) : wholeR M = R (M * pw k) := by
  unfold wholeR
  split
  · rename_i h; rw [h]; exact (R_zero_mul k).symm
  · rename_i h
    have := R_int k h (by omega)
    rw [show k - 52 = 1022 from by omega] at this
    exact this.symm
def P : Nat := pw 1074
theorem P_pos : 0 < P := pw_pos 1074
theorem wholeR_eq (M : Nat) : wholeR M = R (M * P) := wholeR_eq_k M 1074 rfl
theorem nearest_eq_k (neg : Bool) (mag k : Nat) (hk : k = 1074) : double.nearest neg mag 0 = double.word neg (min (R (mag * pw k)) double.infRung) := by
  have := nearest_eq neg mag k
  rw [show (-1074 + (k : Int)) = 0 from by omega] at this
  exact this
theorem nearest_whole (neg : Bool) (mag : Nat) : double.nearest neg mag 0 = word neg (min (wholeR mag) inf) := by
  rw [wholeR_eq]; exact nearest_eq_k neg mag 1074 rfl
theorem V_R_exact_k (q j : Nat) (h : q < 2 ^ 53) : V (R (q * pw j * P)) = q * pw j * P := by
  have e : q * pw j * P = q * pw (j + 1074) := by rw [pw_add, Nat.mul_assoc]; rfl
  rw [e]; exact V_R_exact q (j + 1074) h
theorem log2_lt64 {M : Nat} (h0 : M ≠ 0) (h : M < 2 ^ 64) : M.log2 < 64 := (Nat.log2_lt h0).2 h
theorem wholeR_le {M : Nat} (h : M < 2 ^ 64) : wholeR M < inf := by
  unfold wholeR
  split
  · decide
  · rename_i h0
    have hl := log2_lt64 h0 h
    have hm := @Nat.lt_log2_self M
    have hK : (if M.log2 ≤ 52 then M * 2 ^ (52 - M.log2) else E M (M.log2 - 52)) ≤ 2 ^ 53 := by
      split
      · rename_i h52
        have : M * 2 ^ (52 - M.log2) ≤ 2 ^ (M.log2 + 1) * 2 ^ (52 - M.log2) := Nat.mul_le_mul_right _ (Nat.le_of_lt hm)
        rw [← Nat.pow_add, show M.log2 + 1 + (52 - M.log2) = 53 from by omega] at this
        exact this
      · rename_i h52
        refine (E_bounds (N := M) (L := M.log2 - 52) ?_ ?_).2
        · rw [show M.log2 - 52 + 52 = M.log2 from by omega]; exact Nat.log2_self_le h0
        · rw [show M.log2 - 52 + 53 = M.log2 + 1 from by omega]; exact hm
    generalize (if M.log2 ≤ 52 then M * 2 ^ (52 - M.log2) else E M (M.log2 - 52)) = K at *
    unfold inf
    omega
def ofW (n : Int) : Nat := word (decide (n < 0)) (wholeR n.natAbs)
theorem nearest_int {n : Int} (h : n.natAbs < 2 ^ 64) : double.write (.number (decide (n < 0)) n.natAbs 0) = ofW n := by
  unfold Format.write ofW
  simp only
  rw [nearest_whole, Nat.min_eq_left (Nat.le_of_lt (wholeR_le h))]
theorem wholeR_mono {M N : Nat} (h : M ≤ N) : wholeR M ≤ wholeR N := by
  rw [wholeR_eq, wholeR_eq]; exact R_mono (Nat.mul_le_mul_right _ h)
theorem V_wholeR_k (q j : Nat) (h : q < 2 ^ 53) : V (wholeR (q * pw j)) = q * pw j * P := by rw [wholeR_eq]; exact V_R_exact_k q j h
theorem V_wholeR_exact {M : Nat} (h : M < 2 ^ 53) : V (wholeR M) = M * P := by
  have := V_wholeR_k M 0 h
  rw [show pw 0 = 1 from rfl, Nat.mul_one] at this
  exact this
theorem ofW_lt {n : Int} (h : n.natAbs < 2 ^ 64) : ofW n < 2 ^ 64 := word_lt _ (by have := wholeR_le h; unfold inf at this; omega)
theorem rung_ofW {n : Int} (h : n.natAbs < 2 ^ 64) : rung (ofW n) = wholeR n.natAbs := rung_word _ (by have := wholeR_le h; unfold inf at this; omega)
theorem sgn_ofW {n : Int} (h : n.natAbs < 2 ^ 64) : sgn (ofW n) = decide (n < 0) := sgn_word _ (by have := wholeR_le h; unfold inf at this; omega)
theorem sv_ofW {n : Int} (h : n.natAbs < 2 ^ 53) : sv (ofW n) = n * (P : Int) := by
  unfold sv
  rw [sgn_ofW (by omega), rung_ofW (by omega), V_wholeR_exact h]
  generalize P = P
  by_cases hn : n < 0
  · have : (n.natAbs : Int) = -n := by omega
    simp [hn, this, Int.neg_mul]
  · have : (n.natAbs : Int) = n := by omega
    simp [hn, this]

/-- whole sums are exact -/
theorem add_ofW {a b : Int} (ha : a.natAbs < 2 ^ 52) (hb : b.natAbs < 2 ^ 52) : double.add (ofW a) (ofW b) = some (ofW (a + b)) := by
  have hra : rung (ofW a) < inf := by rw [rung_ofW (by omega)]; exact wholeR_le (by omega)
  have hrb : rung (ofW b) < inf := by rw [rung_ofW (by omega)]; exact wholeR_le (by omega)
  rw [add_num hra hrb, sv_ofW (by omega), sv_ofW (by omega), ← Int.add_mul]
  have hT : ((a + b) * (P : Int)).natAbs = (a + b).natAbs * P := by rw [Int.natAbs_mul]; rfl
  have hp : (0 : Int) < (P : Int) := by have := P_pos; omega
  unfold fsum
  rw [hT, ← wholeR_eq, Nat.min_eq_left (Nat.le_of_lt (wholeR_le (by omega))), sgn_ofW (by omega), sgn_ofW (by omega)]
  generalize (P : Int) = P at *
  have h0 : ((a + b) * P = 0) ↔ a + b = 0 := by
    constructor
    · intro h
      rcases Int.mul_eq_zero.1 h with h | h
      · exact h
      · omega
    · intro h; rw [h, Int.zero_mul]
  have h1 : ((a + b) * P < 0) ↔ a + b < 0 := by
    constructor
    · intro h
      rcases Int.lt_or_le (a + b) 0 with h' | h'
      · exact h'
      · have := Int.mul_nonneg h' (Int.le_of_lt hp); omega
    · intro h; exact Int.mul_neg_of_neg_of_pos h hp
  unfold ofW
  congr 2
  simp only [h0, h1]
  split
  · have e1 : decide (a + b < 0) = false := by simp; omega
    rw [e1]
    by_cases h : a < 0
    · have : ¬ b < 0 := by omega
      simp [this]
    · simp [h]
  · rfl
end FloatPlain
