/- Plain facts on saturating counts: no program in sight. -/
namespace SatPlain

def Most : Int := 4611686018427387904
def clip (n : Int) : Int := if n < 0 then 0 else if 4611686018427387904 < n then 4611686018427387904 else n
def scale (a b c : Int) : Int := if c < 1 then 0 else clip (a * b / c)
def units (n u : Int) : Int := if n < 1 ∨ u < 1 then 0 else (clip n - 1) / u + 1

theorem clip_lo (n : Int) : 0 ≤ clip n := by unfold clip; split <;> (try split) <;> omega
theorem clip_hi (n : Int) : clip n ≤ 4611686018427387904 := by unfold clip; split <;> (try split) <;> omega
theorem clip_of {n : Int} (h0 : 0 ≤ n) (h1 : n ≤ 4611686018427387904) : clip n = n := by unfold clip; rw [if_neg (by omega), if_neg (by omega)]
theorem clip_neg {n : Int} (h : n ≤ 0) : clip n = 0 := by unfold clip; split <;> (try split) <;> omega
theorem clip_big {n : Int} (h : 4611686018427387904 ≤ n) : clip n = 4611686018427387904 := by unfold clip; split <;> (try split) <;> omega
theorem clip_mono {a b : Int} (h : a ≤ b) : clip a ≤ clip b := by unfold clip; split <;> split <;> (try split) <;> omega
theorem clip_clip (n : Int) : clip (clip n) = clip n := clip_of (clip_lo n) (clip_hi n)

theorem div_is {a c q r : Int} (h : a = c * q + r) (h0 : 0 ≤ r) (h1 : r < c) : a / c = q := by
  subst h
  rw [Int.add_comm, Int.add_mul_ediv_left _ _ (by omega), Int.ediv_eq_zero_of_lt h0 h1]; omega

theorem ediv_nonneg' {a c : Int} (ha : 0 ≤ a) (hc : 1 ≤ c) : 0 ≤ a / c := Int.ediv_nonneg ha (by omega)

theorem scale_lo (a b c : Int) : 0 ≤ scale a b c := by unfold scale; split; exact Int.le_refl _; exact clip_lo _
theorem scale_hi (a b c : Int) : scale a b c ≤ 4611686018427387904 := by unfold scale; split; decide; exact clip_hi _
theorem units_lo (n u : Int) : 0 ≤ units n u := by
  unfold units
  split
  · exact Int.le_refl _
  · have : 1 ≤ clip n := by unfold clip; split <;> (try split) <;> omega
    have := Int.ediv_nonneg (a := clip n - 1) (b := u) (by omega) (by omega)
    omega
theorem div_le_self' {a c : Int} (ha : 0 ≤ a) : a / c ≤ a := Int.ediv_le_self c ha
theorem units_hi (n u : Int) : units n u ≤ 4611686018427387904 := by
  unfold units
  split
  · decide
  · have h1 : 1 ≤ clip n := by unfold clip; split <;> (try split) <;> omega
    have := div_le_self' (a := clip n - 1) (c := u) (by omega)
    have := clip_hi n
    omega

theorem mul_mono {x y z : Int} (hz : 0 ≤ z) (h : x ≤ y) : x * z ≤ y * z := Int.mul_le_mul_of_nonneg_right h hz
theorem scale_mono {x y z c : Int} (hz : 0 ≤ z) (h : x ≤ y) : scale x z c ≤ scale y z c := by
  unfold scale
  split
  · exact Int.le_refl _
  · exact clip_mono (Int.ediv_le_ediv (by omega) (mul_mono hz h))

/-- SatRises -/
theorem rises (x y z : Int) (hz : 0 ≤ z) (h : x ≤ y) :
    clip (x + z) ≤ clip (y + z) ∧ clip (x * z) ≤ clip (y * z) ∧ clip (x - z) ≤ clip (y - z) ∧ clip (z - y) ≤ clip (z - x) ∧ scale x z 7 ≤ scale y z 7 :=
  ⟨clip_mono (by omega), clip_mono (mul_mono hz h), clip_mono (by omega), clip_mono (by omega), scale_mono hz h⟩

/-- units in terms of the quotient -/
theorem units_eq {x u : Int} (hx : 0 ≤ x) (hx' : x ≤ 4611686018427387904) (hu : 1 ≤ u) : units x u = if x = 0 then 0 else (x - 1) / u + 1 := by
  unfold units
  by_cases h : x = 0
  · rw [if_pos (by omega), if_pos h]
  · rw [if_neg (by omega), if_neg h, clip_of (by omega) hx']
/-- the reference's units -/
theorem units_ref {n u : Int} (hn : 1 ≤ n) (hu : 1 ≤ u) : (if 0 < clip n % u then clip n / u + 1 else clip n / u) = units n u := by
  have h1 : 1 ≤ clip n := by unfold clip; split <;> (try split) <;> omega
  have hh : ¬ (n < 1 ∨ u < 1) := by omega
  unfold units
  rw [if_neg hh]
  generalize clip n = m at *
  have hm := Int.emod_nonneg m (b := u) (by omega)
  have hl := Int.emod_lt_of_pos m (b := u) (by omega)
  have hd := Int.mul_ediv_add_emod m u
  split
  · rename_i h
    rw [div_is (a := m - 1) (c := u) (q := m / u) (r := m % u - 1) (by omega) (by omega) (by omega)]
  · rename_i h
    rw [div_is (a := m - 1) (c := u) (q := m / u - 1) (r := u - 1) (by rw [Int.mul_sub, Int.mul_one]; omega) (by omega) (by omega)]
    omega

/-- Units is Scale by 1, or one more; with the products. -/
theorem units_scale {x u : Int} (hx : 0 ≤ x) (hx' : x ≤ 4611686018427387904) (hu : 1 ≤ u) :
    (units x u = scale x 1 u ∨ units x u = scale x 1 u + 1) ∧ clip (scale x 1 u * u) ≤ x ∧ x ≤ clip (units x u * u) := by
  have hs : scale x 1 u = x / u := by
    unfold scale
    rw [if_neg (by omega), Int.mul_one, clip_of (ediv_nonneg' hx hu) (Int.le_trans (div_le_self' hx) hx')]
  rw [hs, units_eq hx hx' hu]
  have hm := Int.emod_nonneg x (b := u) (by omega)
  have hl := Int.emod_lt_of_pos x (b := u) (by omega)
  have hd := Int.mul_ediv_add_emod x u
  rw [Int.mul_comm u] at hd
  have hd0 := ediv_nonneg' hx hu
  by_cases h : x = 0
  · subst h
    simp [clip]
  rw [if_neg h]
  have hm1 := Int.emod_nonneg (x - 1) (b := u) (by omega)
  have hl1 := Int.emod_lt_of_pos (x - 1) (b := u) (by omega)
  have hd1 := Int.mul_ediv_add_emod (x - 1) u
  rw [Int.mul_comm u] at hd1
  have hle : (x - 1) / u ≤ x / u := Int.ediv_le_ediv (by omega) (by omega)
  have hge : x / u ≤ (x - 1) / u + 1 := by
    have : x / u ≤ (x - 1 + 1 * u) / u := Int.ediv_le_ediv (by omega) (by omega)
    rw [Int.add_mul_ediv_right _ _ (by omega)] at this
    exact this
  refine ⟨by omega, ?_, ?_⟩
  · have h0 : 0 ≤ x / u * u := Int.mul_nonneg hd0 (by omega)
    rw [clip_of h0 (by omega)]; omega
  · have : x ≤ ((x - 1) / u + 1) * u := by rw [Int.add_mul]; omega
    by_cases hb : ((x - 1) / u + 1) * u ≤ 4611686018427387904
    · rw [clip_of (by omega) hb]; exact this
    · rw [clip_big (by omega)]; exact hx'

/-- SatThree -/
theorem add_assoc' {x y z : Int} (hx : 0 ≤ x) (hy : 0 ≤ y) (hz : 0 ≤ z) : clip (clip (x + y) + z) = clip (x + clip (y + z)) := by
  unfold clip; repeat' split
  all_goals omega
theorem sub_sub' {x y z : Int} (hx' : x ≤ 4611686018427387904) (hy : 0 ≤ y) (hz : 0 ≤ z) : clip (clip (x - y) - z) = clip (x - clip (y + z)) := by
  unfold clip; repeat' split
  all_goals omega
theorem mul_clip_l {x y z : Int} (hx : 0 ≤ x) (hy : 0 ≤ y) (hz : 0 ≤ z) : clip (clip (x * y) * z) = clip (x * y * z) := by
  have hxy := Int.mul_nonneg hx hy
  by_cases h : x * y ≤ 4611686018427387904
  · rw [clip_of hxy h]
  · rw [clip_big (n := x * y) (by omega)]
    by_cases h0 : z = 0
    · subst h0; simp
    · have h1 : 4611686018427387904 * 1 ≤ (4611686018427387904 : Int) * z := Int.mul_le_mul_of_nonneg_left (by omega) (by omega)
      have h2 : 4611686018427387904 * z ≤ x * y * z := Int.mul_le_mul_of_nonneg_right (by omega) hz
      rw [clip_big (by omega), clip_big (by omega)]
theorem mul_assoc' {x y z : Int} (hx : 0 ≤ x) (hy : 0 ≤ y) (hz : 0 ≤ z) : clip (clip (x * y) * z) = clip (x * clip (y * z)) := by
  rw [mul_clip_l hx hy hz, Int.mul_comm x (clip (y * z)), mul_clip_l hy hz hx]
  congr 1
  rw [Int.mul_comm (y * z) x, ← Int.mul_assoc]

/-- SatUnitsOf -/
theorem units_of {x y u : Int} (hx : 0 ≤ x) (hy : 0 ≤ y) (hu : 1 ≤ u) (h : x + y ≤ 4611686018427387904) :
    units x u + units y u = units (x + y) u ∨ units x u + units y u = units (x + y) u + 1 := by
  rw [units_eq hx (by omega) hu, units_eq hy (by omega) hu, units_eq (by omega) h hu]
  by_cases h1 : x = 0
  · subst h1; simp
  by_cases h2 : y = 0
  · subst h2; simp
  rw [if_neg h1, if_neg h2, if_neg (by omega)]
  have a1 := Int.emod_nonneg (x - 1) (b := u) (by omega)
  have a2 := Int.emod_lt_of_pos (x - 1) (b := u) (by omega)
  have a3 := Int.mul_ediv_add_emod (x - 1) u
  have b1 := Int.emod_nonneg (y - 1) (b := u) (by omega)
  have b2 := Int.emod_lt_of_pos (y - 1) (b := u) (by omega)
  have b3 := Int.mul_ediv_add_emod (y - 1) u
  generalize (x - 1) / u = p at *
  generalize (y - 1) / u = q at *
  generalize (x - 1) % u = r at *
  generalize (y - 1) % u = s at *
  -- x + y - 1 = u (p + q) + (r + s + 1), 1 ≤ r + s + 1 ≤ 2u - 1
  have e : x + y - 1 = u * (p + q) + (r + s + 1) := by rw [Int.mul_add]; omega
  by_cases hk : r + s + 1 < u
  · rw [div_is (a := x + y - 1) (c := u) (q := p + q) (r := r + s + 1) (by omega) (by omega) (by omega)]
    omega
  · rw [div_is (a := x + y - 1) (c := u) (q := p + q + 1) (r := r + s + 1 - u) (by rw [Int.mul_add u (p + q)]; omega) (by omega) (by omega)]
    omega

/-- SatSame -/
theorem same {x y : Int} (hx : 0 ≤ x) (hx' : x ≤ 4611686018427387904) (hy : 0 ≤ y) :
    scale x y 1 = clip (x * y) ∧ (y < 1 ∨ scale x y y = x) ∧ (clip (x * y) = 4611686018427387904 ∨ y < 1 ∨ scale (clip (x * y)) 1 y = x) := by
  refine ⟨by simp [scale], ?_, ?_⟩
  · by_cases h : y < 1
    · exact .inl h
    · right
      unfold scale
      rw [if_neg h, Int.mul_ediv_cancel _ (by omega), clip_of hx hx']
  · by_cases h : y < 1
    · exact .inr (.inl h)
    by_cases hb : 4611686018427387904 ≤ x * y
    · exact .inl (clip_big hb)
    · right; right
      unfold scale
      rw [if_neg h, clip_of (Int.mul_nonneg hx hy) (by omega), Int.mul_one, Int.mul_ediv_cancel _ (by omega), clip_of hx hx']

/-- mul by the sizes, as the program makes it -/
theorem mul_ref {x y : Int} (hy : 1 ≤ y) : (4611686018427387904 / y < x) = (4611686018427387904 < x * y) := by
  apply propext
  rw [← Int.not_le, ← Int.not_le, Int.le_ediv_iff_mul_le (by omega)]
end SatPlain
